/- A part of the proof: Day7, LBankDays. No condition. -/
import Derived.Test.YtegepioggeggaaaD15
set_option linter.unusedVariables false
set_option linter.unusedSimpArgs false
set_option maxHeartbeats 16000000
set_option maxRecDepth 100000
namespace Go.Proofs.Ytegepioggeggaaa.Dev
open Go.RowKit


theorem Ea {c:List Int} {x1 x2 x3 n:Int} (hl:c.length=6) (h1:c[0]?=some x1) (h2:c[1]?=some x2) (h3:c[2]?=some x3) (hn:gm (c.drop 3)=n):recC c=⟨x1,x2,x3,n⟩:=by
  match c,hl with
  |[a0,a1,a2,a3,a4,a5],_=>
    simp at h1 h2 h3
    subst h1 h2 h3 hn
    simp [recC,gm]
    omega
theorem Eh {d:List Int} {n:Int} (hl:d.length=3) (hb:∀ x∈d,0<=x/\x<=255) (hn:gm d=n):0<=n/\n<=16777215:=by
  match d,hl with
  |[x,y,z],_=>
    have h1:=hb x (by simp);have h2:=hb y (by simp);have h3:=hb z (by simp)
    subst hn
    simp [gm]
    omega
theorem oH {b:List Int} (h:b.length < 5):gr b=([],2):=by
  cases h0:b[0]? with
  |none=>unfold gr;rw [h0]
  |some c=>exact qg h0 (by omega)

theorem Dh (l:List Int):Fn Try.prog 50 [(.c (pV l)),(.c (cI 6))] (.v (.c (.fn 58 [0,1]))) [(0,.box 86 [cR 1 (l.map fE)]),(1,.box 3 [cI 6])]:=by
 refine Fn.mk' 9 [(0,(aC (pV l))),(1,(aI 6))] Try.func50 rfl rfl rfl rfl ?_
 intro W0 T0
 refine dt 0 rfl (fun hlen0=>?_)
 refine ae aa 3 rfl ?_
 refine ag ?_
 refine aF aa 1 rfl ?_
 refine aA (aM rfl rfl rfl (show _=some (Value.bool false) from rfl)) rfl ?_
 refine af ?_
 refine aj rfl (fun hno=>by cases hno) (fun _=>?_)
 refine aS ?_
 refine eR ?_
 refine aA (wc (ks:=[0,1]) rfl ⟨rfl,rfl,trivial⟩) rfl ?_
 refine ad aa 1 rfl ?_
 refine af ?_
 refine az ?_
 refine al aa [0,1] 2 rfl rfl rfl rfl rfl rfl ?_ ?_
 all_goals first|rfl|(simp [aw];done)|(simp [aw];omega)
theorem xq (b : List Int) (hb : ∀ c ∈ b, 0 ≤ c ∧ c ≤ 255) (hl : b.length ≤ 9223372036854775807) (r : List ah) (e : Int) (hr : gr b = (r, e)) : Fn Try.prog 35 [(.c (pV b))] (.t [(.c (.s 0 0 4 r.length)), (.c (cI e))]) [(0, (cM r))] := by
 refine Fn.ID 75 [(0, (aC (pV b)))] Try.func35 rfl rfl rfl rfl ?_
 intro W0 T0 hT0
 refine od.seq ?_
 refine ax ?_
 refine ad aa 2 rfl ?_
 refine af ?_
 refine od.seq ?_
 refine aF aa 1 rfl ?_
 refine aA (cF rfl rfl rfl rfl rfl Try.underlying86) rfl ?_
 refine ad aa 2 rfl ?_
 refine bE (t := 13) rfl (fun hb1 => ?_) (fun hb1 => ?_)
 ·
  have hb1' := of_decide_eq_true hb1
  refine ad aa 10 rfl ?_
  refine af ?_
  refine aj rfl (fun _ => ?_) (fun hno => by cases hno)
  refine ae aa 2 rfl ?_
  refine az ?_
  refine an ?_
  refine fun a w hI => oC hT0 (?_ : iX Try.prog Try.f35 [] _ _ _ _) hI (.inl rfl)
  refine cS (aH.nil 2 83 4 (by decide) rfl) ?_
  have hX : gr b = (([] : List ah), 2) := by
    first | exact oH (by omega)
  rw [hX] at hr; clear hX
  simp only [Prod.mk.injEq] at hr; obtain ⟨rfl, rfl⟩ := hr
  refine al aa [0] 1 rfl rfl rfl rfl rfl rfl ?_ ?_
  all_goals first | rfl | (simp [aw]; done) | (simp [aw]; omega)
 ·
  have hb1' := of_decide_eq_false hb1
  refine ad aa 1 rfl ?_
  refine dA (ak.yes rfl rfl rfl) (cF rfl rfl rfl rfl rfl Try.underlying86) rfl rfl ?_
  refine ad aa 1 rfl ?_
  obtain ⟨x1, hx1⟩ := cf (xs := b) (i := 0) (by first | omega | (simp; done) | (simp; omega))
  have hx1b := hb x1 (by first | exact List.mem_of_getElem? hx1 | exact List.mem_of_mem_drop (List.mem_of_getElem? hx1))
  refine dA (ak.yes rfl rfl rfl) (cD (i := 0) rfl rfl rfl Try.underlying86 rH (by first | omega | (simp; done) | (simp; omega)) (bp hx1)) rfl rfl ?_
  refine ad aa 1 rfl ?_
  refine dA (ak.yes rfl rfl rfl) (eE rfl rfl (by rw [Try.underlying5]; rfl) Try.underlying3 (gR (by first | omega | (simp; done) | (simp; omega)))) rfl rfl ?_
  refine dA (ak.yes rfl rfl rfl) (aM rfl rfl rfl (aL (by first | omega | (simp; done) | (simp; omega)))) rfl rfl ?_
  refine dA (ak.yes rfl rfl rfl) (aM rfl rfl rfl (aL (by first | omega | (simp; done) | (simp; omega)))) rfl rfl ?_
  refine ad aa 2 rfl ?_
  refine af ?_
  refine aj rfl (fun hc3 => ?_) (fun hc3 => ?_)
  ·
   have hc3' := of_decide_eq_true hc3
   refine ae aa 2 rfl ?_
   refine az ?_
   refine an ?_
   refine fun a w hI => oC hT0 (?_ : iX Try.prog Try.f35 [] _ _ _ _) hI (.inl rfl)
   refine cS (aH.nil 2 83 4 (by decide) rfl) ?_
   have hX : gr b = (([] : List ah), 2) := by
     first | exact oH (by omega) | exact qg hx1 (by omega)
   rw [hX] at hr; clear hX
   simp only [Prod.mk.injEq] at hr; obtain ⟨rfl, rfl⟩ := hr
   refine al aa [0] 1 rfl rfl rfl rfl rfl rfl ?_ ?_
   all_goals first | rfl | (simp [aw]; done) | (simp [aw]; omega)
  ·
   have hc3' := of_decide_eq_false hc3
   refine aS ?_
   refine od.seq ?_
   refine ax ?_
   refine ad aa 1 rfl ?_
   refine af ?_
   refine od.seq ?_
   refine ax ?_
   refine ad aa 2 rfl ?_
   refine af ?_
   refine od.seq ?_
   refine ax ?_
   refine ad aa 1 rfl ?_
   refine aA (cF rfl rfl rfl rfl rfl Try.underlying86) rfl ?_
   refine aA (aM rfl rfl rfl (aL (by first | omega | (simp; done) | (simp; omega)))) rfl ?_
   refine ad aa 1 rfl ?_
   refine af ?_
   refine od.HD ?_
   refine ax ?_
   refine ad aa 2 rfl ?_
   refine aA (kH (l := 1) (h := (b.length) - 4) (ys := (((b).drop 1).take (((b.length) - 4) - 1)).map fE) rfl Try.underlying86 rH rfl (.inr ⟨_, rfl, rfl⟩) (.inr ⟨_, rfl, (si rfl (by first | omega | (simp; done) | (simp; omega)))⟩) (by first | omega | (simp; done) | (simp; omega)) (by first | omega | (simp; done) | (simp; omega)) (by simp)) rfl ?_
   refine aQ 4 [2, 3, 1, 0] (cb 2 (Dh (((b).drop 1).take (((b.length) - 4) - 1))  ) Il rfl rfl ⟨⟨_, rfl, .c (.d _)⟩, ⟨_, rfl, .c (.d _)⟩,  trivial⟩ trivial ⟨⟨trivial,  trivial⟩, ⟨trivial,  trivial⟩,  trivial⟩ rfl rfl rfl rfl) rfl ?_
   refine af ?_
   refine fun a w hI => yL b (((b).drop 1).take (((b.length) - 4) - 1)) x1.toNat ((↑b.length : Int) - 4) (by omega) (by rw [List.length_take, List.length_drop]; omega) (fun x hx => hb x (List.mem_of_mem_drop (List.mem_of_mem_take hx))) hT0 ((aH.ca id (by refine ⟨?_, ?_, ?_, ?_, ?_,  trivial⟩ <;> first | rfl | (simp only [bu]; done) | (congr 3; omega) | (congr 4; omega) | (simp only [bw]; rfl)) (by refine ⟨?_, ?_, ?_, ?_,  trivial⟩ <;> first | rfl | (simp only [bu]; done) | (congr 3; omega) | (congr 4; omega) | (simp only [bw]; rfl)) rfl) _ _ _ _ _ _ hI) ?_ ?_ ?_
   · exact fun l n a w K hK => wQ rfl rfl hK
   ·
    intro l n W F T g0 g1 m all c hcl hcb hml hall
    unfold iS
    refine BF ?_
    refine yr ?_
    obtain ⟨x2, hx2⟩ := cf (xs := c) (i := 0) (by first | omega | (simp; done) | (simp; omega))
    have hx2b := hcb x2 (List.mem_of_getElem? hx2)
    obtain ⟨x3, hx3⟩ := cf (xs := c) (i := 1) (by first | omega | (simp; done) | (simp; omega))
    have hx3b := hcb x3 (List.mem_of_getElem? hx3)
    obtain ⟨x4, hx4⟩ := cf (xs := c) (i := 2) (by first | omega | (simp; done) | (simp; omega))
    have hx4b := hcb x4 (List.mem_of_getElem? hx4)
    obtain ⟨n0, hr0⟩ : ∃ (n0 : Int), gm ((c).drop 3) = n0 := ⟨_, rfl⟩
    have hnb := Eh (by simp; omega) (fun x hx => hcb x (List.mem_of_mem_drop hx)) hr0
    refine BE [7, 4, 5] [2, 1, 0] mixed rfl rfl ?_
    refine aD (kn := []) aa 1 rfl trivial ?_
    refine aT (n' := 3) [32] [] rfl rfl (.inl ⟨(ak.plain rfl), aK.cast (cD (i := 0) rfl rfl rfl Try.underlying86 rH (by first | omega | (simp; done) | (simp; omega)) (bp hx2)) rfl⟩) rfl ?_
    refine aD (kn := []) aa 1 rfl trivial ?_
    refine aT (n' := 3) [34] [] rfl rfl (.inl ⟨(ak.plain rfl), aK.cast (eE rfl rfl (by rw [Try.underlying5]; rfl) Try.underlying3 (gR (by first | omega | (simp; done) | (simp; omega)))) rfl⟩) rfl ?_
    refine aD (kn := []) aa 1 rfl trivial ?_
    refine aT (n' := 3) [36] [] rfl rfl (.inl ⟨(ak.plain rfl), aK.cast (cD (i := 1) rfl rfl rfl Try.underlying86 rH (by first | omega | (simp; done) | (simp; omega)) (bp hx3)) rfl⟩) rfl ?_
    refine aD (kn := []) aa 1 rfl trivial ?_
    refine aT (n' := 3) [38] [] rfl rfl (.inl ⟨(ak.plain rfl), aK.cast (eE rfl rfl (by rw [Try.underlying5]; rfl) Try.underlying3 (gR (by first | omega | (simp; done) | (simp; omega)))) rfl⟩) rfl ?_
    refine aD (kn := []) aa 1 rfl trivial ?_
    refine aT (n' := 3) [40] [] rfl rfl (.inl ⟨(ak.plain rfl), aK.cast (cD (i := 2) rfl rfl rfl Try.underlying86 rH (by first | omega | (simp; done) | (simp; omega)) (bp hx4)) rfl⟩) rfl ?_
    refine aD (kn := []) aa 1 rfl trivial ?_
    refine aT (n' := 3) [42] [] rfl rfl (.inl ⟨(ak.plain rfl), aK.cast (eE rfl rfl (by rw [Try.underlying5]; rfl) Try.underlying3 (gR (by first | omega | (simp; done) | (simp; omega)))) rfl⟩) rfl ?_
    refine aD (kn := []) aa 1 rfl trivial ?_
    refine aT (n' := 3) [44] [] rfl rfl (.inl ⟨(ak.plain rfl), aK.cast (kH (l := 3) (h := c.length) (ys := ((c).drop 3).map fE) rfl Try.underlying86 rH rfl (.inr ⟨_, rfl, rfl⟩) (.inl ⟨rfl, by simp⟩) (by first | omega | (simp; done) | (simp; omega)) (by first | omega | (simp; done) | (simp; omega)) (by first | (simp; done) | (rw [List.map_drop]; exact List.take_of_length_le (by simp)))) rfl⟩) rfl ?_
    refine aT (n' := 3) [45] [] rfl rfl (.inl ⟨(ak.plain rfl), aK.cast (cb 3 (rl ((c).drop 3) (by first | assumption | exact fun c hc => hb c (List.mem_of_mem_drop hc) | exact fun x hx => hcb x (List.mem_of_mem_drop hx)) (by first | omega | (simp; done) | (simp; omega)) n0 hr0) CN rfl rfl ⟨⟨_, rfl, .c (.d _)⟩,  trivial⟩ trivial trivial rfl rfl rfl rfl) rfl⟩) rfl ?_
    refine aD (n' := 4) (kn := []) aa 2 rfl trivial ?_
    refine bA [3, 2, 1, 0] rfl rfl rfl rfl (by kernel_rfl) ?_
    refine ad aa 1 rfl ?_
    refine af ?_
    refine yr ?_
    refine sI rfl ?_
    refine ad aa 2 rfl ?_
    refine aQ 5 [4, 3, 2, 1, 0] (dV (ys := [(0, (.g [(cI (x2 : Int)), (cI (x3 : Int)), (cI (x4 : Int)), (cI n0)]))]) (rows := ([(⟨(x2 : Int), (x3 : Int), (x4 : Int), n0⟩ : ah)]).map fJ) 4 ox rfl (by decide) ⟨⟨rfl, rfl⟩,  trivial⟩ rfl rfl rfl rfl) rfl ?_
    refine aQ 6 [5, 4, 3, 1, 0] (dw (m := 1) (N := m.length + 1) (k2 := 5) (ys := ([(⟨(x2 : Int), (x3 : Int), (x4 : Int), n0⟩ : ah)]).map fJ) ox rfl rfl rfl rfl rfl rfl (by first | omega | (simp; done) | (simp; omega)) rfl (.s rfl (by first | omega | (simp; done) | (simp; omega))) (by first | omega | (simp; done) | (simp; omega)) (by first | omega | (simp; done) | (simp; omega)) fz (by decide) (by first | omega | (simp; done) | (simp; omega)) (by first | omega | (simp; done) | (simp; omega))) rfl ?_
    refine ad aa 1 rfl ?_
    refine af ?_
    refine sI rfl ?_
    refine ad aa 3 rfl ?_
    refine aA (aM rfl rfl rfl (aL (by first | omega | (simp; done) | (simp; omega)))) rfl ?_
    refine ad aa 1 rfl ?_
    refine bZ ?_
    refine bm ?_
    refine ⟨rfl, ?_⟩
    rw [Ea hcl hx2 hx3 hx4 hr0]
    exact aH.ca (fun k => if k = 2 then 5 else k) trivial (by refine ⟨?_, ?_, ?_,  trivial⟩ <;> first | rfl | (simp only [bu]; done) | (congr 3; omega) | (congr 4; omega) | (simp only [bw]; rfl)) rfl
   ·
    intro W F ds T
    unfold iS
    have hml := (um x1.toNat (d := ((b).drop 1).take (((b.length) - 4) - 1)) (by rw [List.length_take, List.length_drop]; omega) (fun x hx => hb x (List.mem_of_mem_drop (List.mem_of_mem_take hx)))).2
    generalize hm : fQ (((b).drop 1).take (((b.length) - 4) - 1)) = m at hml ⊢
    refine ag ?_
    refine aF aa 1 rfl ?_
    obtain ⟨f1, hr1⟩ : ∃ (f1 : cW), eV m = f1 := ⟨_, rfl⟩
    refine aQ 3 [2, 1, 0] (fe 3 [2] (qw m  f1 hr1) FW rfl rfl ⟨⟨_, rfl, .c (.s rfl (by decide) (by first | omega | (simp; done) | (simp; omega)))⟩,  trivial⟩ ⟨rfl, rfl,  trivial⟩ trivial rfl rfl rfl rfl) rfl ?_
    refine ad aa 2 rfl ?_
    refine af ?_
    refine ae aa 3 rfl ?_
    refine aj rfl (fun hc4 => ?_) (fun hc4 => ?_)
    ·
     have hc4' := of_decide_eq_true hc4
     refine ag ?_
     refine aX [0, 4, 5, 6, 9] [3, 2, 1, 0] mixed rfl rfl ?_
     refine aD (kn := []) aa 4 rfl trivial ?_
     refine bA [3, 2, 1, 0] rfl rfl rfl rfl (by kernel_rfl) ?_
     refine af ?_
     refine az ?_
     refine an ?_
     refine cS (aH.nil 2 83 4 (by decide) rfl) ?_
     have hX : gr b = (([] : List ah), f1.err) := by
       rw [lf hx1 (by omega) (show m = _ by rw [← hm]; congr 2 <;> omega)]; rw [if_neg (by rw [hr1]; omega), hr1]
     rw [hX] at hr; clear hX
     simp only [Prod.mk.injEq] at hr; obtain ⟨rfl, rfl⟩ := hr
     refine al aa [4] 1 rfl rfl rfl rfl rfl rfl ?_ ?_
     all_goals first | rfl | (simp [aw]; done) | (simp [aw]; omega)
    ·
     have hc4' := of_decide_eq_false hc4
     refine aS ?_
     refine ag ?_
     refine ag ?_
     obtain ⟨n2, hr2⟩ : ∃ (n2 : Int), gm ((b).drop ((b.length) - 4)) = n2 := ⟨_, rfl⟩
     rcases Bool.eq_false_or_eq_true (decide (¬ (eG m) = n2)) with hb5 | hb5
     ·
      have hb5' := of_decide_eq_true hb5
      refine aX [0, 4, 5, 6] [2, 1, 0] mixed rfl rfl ?_
      refine aD (kn := []) aa 3 rfl trivial ?_
      refine aT (n' := 4) [64, 65] [] rfl rfl (.inl ⟨(ak.plain rfl), aK.cast (kH (l := (b.length) - 4) (h := b.length) (ys := ((b).drop ((b.length) - 4)).map fE) rfl Try.underlying86 rH rfl (.inr ⟨_, rfl, (si rfl (by first | omega | (simp; done) | (simp; omega)))⟩) (.inl ⟨rfl, by simp⟩) (by first | omega | (simp; done) | (simp; omega)) (by first | omega | (simp; done) | (simp; omega)) (by first | (simp; done) | (rw [List.map_drop]; exact List.take_of_length_le (by simp)))) rfl⟩) rfl ?_
      refine aT (n' := 4) [66] [] rfl rfl (.inl ⟨(ak.plain rfl), aK.cast (cb 4 (rl ((b).drop ((b.length) - 4)) (by first | assumption | exact fun c hc => hb c (List.mem_of_mem_drop hc) | exact fun x hx => hcb x (List.mem_of_mem_drop hx)) (by first | omega | (simp; done) | (simp; omega)) n2 hr2) CN rfl rfl ⟨⟨_, rfl, .c (.d _)⟩,  trivial⟩ trivial trivial rfl rfl rfl rfl) rfl⟩) rfl ?_
      refine aD (kn := [(68, true)]) aa 6 rfl ⟨hb5, trivial⟩ ?_
      refine bA [2, 1, 0] rfl rfl rfl rfl (by kernel_rfl) ?_
      refine af ?_
      refine aj rfl (fun _ => ?_) (fun hno => by cases hno)
      refine ae aa 2 rfl ?_
      refine az ?_
      refine an ?_
      refine cS (aH.nil 2 83 4 (by decide) rfl) ?_
      have hX : gr b = (([] : List ah), 8) := by
        rw [lf hx1 (by omega) (show m = _ by rw [← hm]; congr 2 <;> omega)]
        have hdn : gm (b.drop (b.length - 4)) = _ := (show gm (b.drop (b.length - 4)) = gm ((b).drop ((b.length) - 4)) by congr 2 <;> omega).trans hr2
        rw [if_pos (by rw [hr1]; omega)]
        rw [if_neg]
        rintro ⟨h1, h2⟩
        rw [hdn] at h1; omega
      rw [hX] at hr; clear hX
      simp only [Prod.mk.injEq] at hr; obtain ⟨rfl, rfl⟩ := hr
      refine al aa [4] 1 rfl rfl rfl rfl rfl rfl ?_ ?_
      all_goals first | rfl | (simp [aw]; done) | (simp [aw]; omega)
     ·
      have hb5' := of_decide_eq_false hb5
      obtain ⟨r3, hr3⟩ : ∃ (r3 : Bool), ou m = r3 := ⟨_, rfl⟩
      refine aX [0, 4, 5, 6] [2, 1, 0] mixed rfl rfl ?_
      refine aD (kn := []) aa 3 rfl trivial ?_
      refine aT (n' := 4) [64, 65] [] rfl rfl (.inl ⟨(ak.plain rfl), aK.cast (kH (l := (b.length) - 4) (h := b.length) (ys := ((b).drop ((b.length) - 4)).map fE) rfl Try.underlying86 rH rfl (.inr ⟨_, rfl, (si rfl (by first | omega | (simp; done) | (simp; omega)))⟩) (.inl ⟨rfl, by simp⟩) (by first | omega | (simp; done) | (simp; omega)) (by first | omega | (simp; done) | (simp; omega)) (by first | (simp; done) | (rw [List.map_drop]; exact List.take_of_length_le (by simp)))) rfl⟩) rfl ?_
      refine aT (n' := 4) [66] [] rfl rfl (.inl ⟨(ak.plain rfl), aK.cast (cb 4 (rl ((b).drop ((b.length) - 4)) (by first | assumption | exact fun c hc => hb c (List.mem_of_mem_drop hc) | exact fun x hx => hcb x (List.mem_of_mem_drop hx)) (by first | omega | (simp; done) | (simp; omega)) n2 hr2) CN rfl rfl ⟨⟨_, rfl, .c (.d _)⟩,  trivial⟩ trivial trivial rfl rfl rfl rfl) rfl⟩) rfl ?_
      refine aD (kn := [(68, false)]) aa 3 rfl ⟨hb5, trivial⟩ ?_
      refine aT (n' := 4) [70, 69] [2] rfl rfl (.inl ⟨(ak.yes rfl rfl rfl), aK.cast (fe 4 [2] (zt m 53 ([]) (fun x y => tk x y) CM  r3 hr3) Ik rfl rfl ⟨⟨_, rfl, .c (.s rfl (by decide) (by first | omega | (simp; done) | (simp; omega)))⟩, ⟨_, rfl, .c (.fn trivial)⟩,  trivial⟩ rfl trivial rfl rfl rfl rfl) rfl⟩) rfl ?_
      refine aD (kn := []) aa 2 rfl trivial ?_
      refine bA [2, 1, 0] rfl rfl rfl rfl (by kernel_rfl) ?_
      refine af ?_
      refine aj rfl (fun hc7 => ?_) (fun hc7 => ?_)
      ·
       have hc7' := hc7; try simp only [br, bR] at hc7'
       refine ae aa 2 rfl ?_
       refine az ?_
       refine an ?_
       refine cS (aH.nil 2 83 4 (by decide) rfl) ?_
       have hX : gr b = (([] : List ah), 8) := by
         rw [lf hx1 (by omega) (show m = _ by rw [← hm]; congr 2 <;> omega)]
         have hdn : gm (b.drop (b.length - 4)) = _ := (show gm (b.drop (b.length - 4)) = gm ((b).drop ((b.length) - 4)) by congr 2 <;> omega).trans hr2
         rw [if_pos (by rw [hr1]; omega)]
         rw [if_neg]
         rintro ⟨h1, h2⟩
         have h3 : ou m = true := decide_eq_true h2
         rw [hr3] at h3; simp_all
       rw [hX] at hr; clear hX
       simp only [Prod.mk.injEq] at hr; obtain ⟨rfl, rfl⟩ := hr
       refine al aa [4] 1 rfl rfl rfl rfl rfl rfl ?_ ?_
       all_goals first | rfl | (simp [aw]; done) | (simp [aw]; omega)
      ·
       have hc7' := hc7; try simp only [br, bR] at hc7'
       refine aS ?_
       refine ae aa 3 rfl ?_
       refine az ?_
       have hX : gr b = (m, 0) := by
         rw [lf hx1 (by omega) (show m = _ by rw [← hm]; congr 2 <;> omega)]
         have hdn : gm (b.drop (b.length - 4)) = _ := (show gm (b.drop (b.length - 4)) = gm ((b).drop ((b.length) - 4)) by congr 2 <;> omega).trans hr2
         rw [if_pos (by rw [hr1]; omega)]
         rw [if_pos]
         refine ⟨by rw [hdn]; omega, ?_⟩
         have h3 : ou m = true := by rw [hr3]; simp_all
         exact of_decide_eq_true h3
       rw [hX] at hr; clear hX
       simp only [Prod.mk.injEq] at hr; obtain ⟨rfl, rfl⟩ := hr
       refine al aa [2] 1 rfl rfl rfl rfl rfl rfl ?_ ?_
       all_goals first | rfl | (simp [aw]; done) | (simp [aw]; omega)

theorem zu (s:Setup) (l:List bx):Fn Try.prog 11 [(.g [(cR 3 ((s.cZ).map hM)),(cI s.gT),(cI s.cap)]),(.c (rA l))] (aB true) []:=by
 refine Fn.mk' 119 [(0,(aG [(cR 3 ((s.cZ).map hM)),(cI s.gT),(cI s.cap)])),(1,(aC (rA l)))] Try.func11 rfl rfl rfl rfl ?_
 intro W0 T0
 refine fr 0 0 rfl rfl (fun hlen0_0=>?_)
 refine dt 1 rfl (fun hlen1=>?_)
 refine ae aa 2 rfl ?_
 refine ag ?_
 refine eR ?_
 refine aQ 1 [0] (cb 1 (Dg) It rfl rfl trivial trivial trivial rfl rfl rfl rfl) rfl ?_
 refine ad aa 1 rfl ?_
 refine af ?_
 refine aj rfl (fun hno=>by cases hno) (fun _=>?_)
 refine aS ?_
 refine aF aa 2 rfl ?_
 obtain ⟨b20,y20,o20,f20,hr0⟩:∃ (b20:Bk) (y20:List (List Int)) (o20:List Answer) (f20:cW),hO s l=(b20,y20,o20,f20):=⟨_,_,_,_,rfl⟩
 have hlo:f20.err=0->o20.length=l.length/\l.length<=150:=fun h=>vF hr0 h
 refine aQ 1 [0] (cb 1 (Fn.frozen (av':=(.t [(.g [(cI b20.time),(cB b20.down),(DA b20.ay),(gM b20.due),(xA b20.au),(cI b20.s0.bX),(dj b20.s0.kept),(cI b20.s1.bX),(dj b20.s1.kept),(cI b20.n0),(cI b20.n1),(eu b20.w0),(eu b20.w1),(cI b20.bG.cap),(gM b20.bG.used),(iq b20.bG.bd),(gL b20.aP),(Dy y20),(dW b20.book)]),(.c (Dz o20)),(.g [(cI f20.err),(cI f20.at_)])])) (Bt s l b20 y20 o20 f20 hr0) ⟨⟨.inl ⟨_,rfl,rfl⟩,.inl ⟨_,rfl,rfl⟩,.inr ⟨_,_,_,_,_,rfl,rfl,rfl,by simp⟩,.inr ⟨_,_,_,_,_,rfl,rfl,rfl,by simp⟩,.inr ⟨_,_,_,_,_,rfl,rfl,rfl,by simp⟩,.inl ⟨_,rfl,rfl⟩,.inl ⟨_,rfl,rfl⟩,.inl ⟨_,rfl,rfl⟩,.inl ⟨_,rfl,rfl⟩,.inl ⟨_,rfl,rfl⟩,.inl ⟨_,rfl,rfl⟩,.inl ⟨_,rfl,rfl⟩,.inl ⟨_,rfl,rfl⟩,.inl ⟨_,rfl,rfl⟩,.inl ⟨_,rfl,rfl⟩,.inl ⟨_,rfl,rfl⟩,.inr ⟨_,_,_,_,_,rfl,rfl,rfl,by simp⟩,.inr ⟨_,_,_,_,_,rfl,rfl,rfl,by simp⟩,.inl ⟨_,rfl,rfl⟩,trivial⟩,.inr ⟨_,_,_,_,_,rfl,rfl,rfl,by simp⟩,⟨.inl ⟨_,rfl,rfl⟩,.inl ⟨_,rfl,rfl⟩,trivial⟩,trivial⟩) FZ rfl rfl ⟨⟨_,rfl,.g ⟨.d _,.d _,.d _,trivial⟩⟩,⟨_,rfl,.c (.d _)⟩,trivial⟩ ⟨⟨trivial,trivial,trivial,trivial,trivial,trivial,trivial,trivial,trivial,trivial,trivial,trivial,trivial,trivial,trivial,trivial,trivial,trivial,trivial,trivial⟩,trivial,⟨trivial,trivial,trivial⟩,trivial⟩ trivial rfl rfl rfl rfl) rfl ?_
 refine ad aa 9 rfl ?_
 refine af ?_
 refine ag ?_
 refine ae aa 3 rfl ?_
 refine aj rfl (fun hc2=>?_) (fun hc2=>?_)
 ·
  have hc2':=of_decide_eq_true hc2
  refine ae aa 1 rfl ?_
  refine az ?_
  refine an ?_
  refine al aa [] 0 rfl rfl rfl rfl rfl rfl ?_ ?_
  ·rfl
  ·rfl
 have hc2':=of_decide_eq_false hc2
 refine aS ?_
 refine ae aa 1 rfl ?_
 refine ae aa 1 rfl ?_
 refine eR ?_
 refine aQ 4 [3,2,1,0] (zd 3 rfl) rfl ?_
 refine ad aa 1 rfl ?_
 refine af ?_
 refine ag ?_
 refine aF aa 1 rfl ?_
 refine aA (cF rfl rfl rfl rfl rfl Try.underlying24) rfl ?_
 refine ad aa 1 rfl ?_
 refine af ?_
 refine aY ?_
 refine gI (aH.nil 8 83 4 (by decide) rfl) ?_
 refine cE (β:=Nat×List ah×Int×List Int×Nat) (fun (p:Nat×List ah×Int×List Int×Nat)=>match p with|(i,tt,k,hl,cl)=>⟨[(5,(aC (.p 1 0 0 0))),(6,(aC (Dz o20))),(8,(aC (.s 4 0 4 tt.length))),(9,(aI k)),(10,(aC (.m 3))),(28,(aC (rA l))),(29,(aI (↑l.length:Int))),(30,(aI (↑i:Int)))],[(4,(cM tt)),(3,(.map (bV hl) cl)),(1,(.box 46 [(cI b20.time),(cB b20.down),(DA b20.ay),(gM b20.due),(xA b20.au),(cI b20.s0.bX),(dj b20.s0.kept),(cI b20.s1.bX),(dj b20.s1.kept),(cI b20.n0),(cI b20.n1),(eu b20.w0),(eu b20.w1),(cI b20.bG.cap),(gM b20.bG.used),(iq b20.bG.bd),(gL b20.aP),(Dy y20),(dW b20.book)]))],5⟩) (fun (p:Nat×List ah×Int×List Int×Nat)=>match p with|(i,tt,k,hl,cl)=>i<=l.length/\FJ s l i tt k hl) (fun (p:Nat×List ah×Int×List Int×Nat)=>match p with|(i,tt,k,hl,cl)=>l.length - i) (0,([]:List ah),0,([]:List Int),0) ?_ ?_ ?_
 ·exact ⟨by omega,FJ.start s l⟩
 ·exact aH.ca id (by refine ⟨?_,?_,?_,?_,?_,?_,?_,?_,trivial⟩<;>first|rfl|(simp only [bu];done)|(congr 3;omega)|(congr 4;omega)|(simp only [bw];rfl)|(first|exact cK rfl (by omega)|exact ja rfl (by first|omega|(simp only [List.length_append,List.length_cons,List.length_nil] at *;omega)))) (by refine ⟨?_,?_,?_,trivial⟩<;>first|rfl|(simp only [bu];done)|(congr 3;omega)|(congr 4;omega)|(simp only [bw];rfl)) rfl
 rintro ⟨i,tt,k,hl,cl⟩ ⟨hi0_0,hi0_1⟩
 have hkn:=hi0_1.kn
 have hln:=hi0_1.len
 refine ae aa 1 rfl ?_
 refine ag ?_
 refine aj rfl (fun hc3=>?_) (fun hc3=>?_)
 ·
  have hc3':=of_decide_eq_true hc3
  refine aS ?_
  refine ag ?_
  refine aY ?_
  refine aF aa 1 rfl ?_
  obtain ⟨x1,hx1⟩:=cf (xs:=l) (i:=i) (by first|omega|(simp;done)|(simp;omega))
  refine aA (cD (i:=i) rfl rfl rfl Try.underlying24 EL (by first|omega|(simp;done)|(simp;omega)) (bp hx1)) rfl ?_
  refine ad aa 4 rfl ?_
  refine af ?_
  refine ag ?_
  refine cw 43 ((decide (¬x1.id=0)) && (decide (x1.id∈hl))) ?_ ?_
  ·
   refine ax ?_
   refine ad aa 4 rfl ?_
   refine bE (t:=38) rfl (fun hb4=>?_) (fun hb4=>?_)
   ·
    have hb4':=of_decide_eq_true hb4
    refine ad aa 3 rfl ?_
    refine dA (ak.yes rfl rfl rfl) (AW (ps:=hl) Try.underlying81 Try.underlying3 IB rfl rfl rfl rfl) rfl rfl ?_
    refine ad aa 1 rfl ?_
    refine af ?_
    exact aH.bD 10 rfl rfl (by first|(simp [hb4];done)|(simp_all;done)|(exfalso;simp_all;done)|(simp_all;omega)) rfl
   have hb4':=of_decide_eq_false hb4
   refine ad aa 5 rfl ?_
   refine af ?_
   exact aH.bD 10 rfl rfl (by first|(simp [hb4];done)|(simp_all;done)|(exfalso;simp_all;done)|(simp_all;omega)) rfl
  refine aj rfl (fun hc5=>?_) (fun hc5=>?_)
  ·
   have hc5':=hc5;try simp only [br,bR] at hc5'
   refine cv ?_
   refine aU ?_
   refine bS ?_
   refine then_ok ?_
   refine ax ?_
   refine aA (aM rfl rfl rfl (aL (by first|omega|(simp;done)|(simp;omega)))) rfl ?_
   refine ad aa 1 rfl ?_
   refine af ?_
   refine ⟨(i+1,tt,k,hl,cl),(by first|exact ⟨by omega,ki hr0 (by omega) hx1 hi0_1 (by simp_all) (by simp_all)⟩|exact ⟨by omega,((fV hr0 (by omega) hx1 hx2 hi0_1).2 hn).1 (by omega)⟩|(subst hxa;exact ⟨by omega,hN3⟩)|exact ⟨by omega,hK6⟩|exact ⟨by omega,(((fV hr0 (by omega) hx1 hx2 hi0_1).2 hn).2 (by omega)).2.2 (by omega) (by omega)⟩),by first|omega|(simp;done)|(simp;omega),aH.ca id (by refine ⟨?_,?_,?_,?_,?_,?_,?_,?_,trivial⟩<;>first|rfl|(simp only [bu];done)|(congr 3;omega)|(congr 4;omega)|(simp only [bw];rfl)|(first|exact cK rfl (by omega)|exact ja rfl (by first|omega|(simp only [List.length_append,List.length_cons,List.length_nil] at *;omega)))) (by refine ⟨?_,?_,?_,trivial⟩<;>first|rfl|(simp only [bu];done)|(congr 3;omega)|(congr 4;omega)|(simp only [bw];rfl)) rfl⟩
  have hc5':=hc5;try simp only [br,bR] at hc5'
  refine aS ?_
  have hn:¬(¬x1.id=0/\x1.id∈hl):=by intro h;simp [h.1,h.2] at hc5
  refine aF aa 3 rfl ?_
  refine gj [5,4,3,1] (AS Try.underlying81 Try.underlying3 rfl rfl rfl rfl rfl) rfl ?_
  refine af ?_
  refine ag ?_
  refine aF aa 2 rfl ?_
  obtain ⟨x2,hx2⟩:=cf (xs:=o20) (i:=i) (by first|omega|(simp;done)|(simp;omega))
  refine aA (cD (i:=i) rfl rfl rfl Try.underlying47 EJ (by first|omega|(simp;done)|(simp;omega)) (bp hx2)) rfl ?_
  refine ad aa 3 rfl ?_
  refine af ?_
  refine aj rfl (fun hc6=>?_) (fun hc6=>?_)
  ·
   have hc6':=of_decide_eq_true hc6
   refine cv ?_
   refine aU ?_
   refine bS ?_
   refine then_ok ?_
   refine ax ?_
   refine aA (aM rfl rfl rfl (aL (by first|omega|(simp;done)|(simp;omega)))) rfl ?_
   refine ad aa 1 rfl ?_
   refine af ?_
   refine ⟨(i+1,tt,k,ko hl x1.id,if x1.id∈hl then cl else cl+1),(by first|exact ⟨by omega,ki hr0 (by omega) hx1 hi0_1 (by simp_all) (by simp_all)⟩|exact ⟨by omega,((fV hr0 (by omega) hx1 hx2 hi0_1).2 hn).1 (by omega)⟩|(subst hxa;exact ⟨by omega,hN3⟩)|exact ⟨by omega,hK6⟩|exact ⟨by omega,(((fV hr0 (by omega) hx1 hx2 hi0_1).2 hn).2 (by omega)).2.2 (by omega) (by omega)⟩),by first|omega|(simp;done)|(simp;omega),aH.ca id (by refine ⟨?_,?_,?_,?_,?_,?_,?_,?_,trivial⟩<;>first|rfl|(simp only [bu];done)|(congr 3;omega)|(congr 4;omega)|(simp only [bw];rfl)|(first|exact cK rfl (by omega)|exact ja rfl (by first|omega|(simp only [List.length_append,List.length_cons,List.length_nil] at *;omega)))) (by refine ⟨?_,?_,?_,trivial⟩<;>first|rfl|(simp only [bu];done)|(congr 3;omega)|(congr 4;omega)|(simp only [bw];rfl)) rfl⟩
  have hc6':=of_decide_eq_false hc6
  refine aS ?_
  refine ae aa 2 rfl ?_
  refine aY ?_
  refine ae aa 2 rfl ?_
  refine aj rfl (fun hc7=>?_) (fun hc7=>?_)
  ·
   have hc7':=of_decide_eq_true hc7
   refine ag ?_
   obtain ⟨hN,aN,hN2,hN3⟩:=(((fV hr0 (by omega) hx1 hx2 hi0_1).2 hn).2 (by omega)).1 (by omega)
   have hN4:=(List.getElem?_eq_some_iff.1 hN2).1
   refine aF aa 4 rfl ?_
   refine aA (cF rfl rfl rfl rfl rfl Try.underlying31) rfl ?_
   refine ad aa 1 rfl ?_
   refine af ?_
   refine aj rfl (fun hc8=>?_) (fun hc8=>?_)
   ·
    have hc8':=of_decide_eq_true hc8
    refine ae aa 1 rfl ?_
    refine az ?_
    refine an ?_
    refine bc ?_
    refine bc ?_
    refine an ?_
    refine an ?_
    refine bc ?_
    refine an ?_
    refine al aa [] 0 rfl rfl rfl rfl rfl rfl ?_ ?_
    ·exact congrArg aB (show (false)=true by (exfalso;first|omega|(simp_all;done)|(simp_all;omega)))
    ·rfl
   have hc8':=of_decide_eq_false hc8
   refine aS ?_
   obtain ⟨x3,hx3⟩:=cf (xs:=b20.au) (i:=Int.toNat (x1.n)) (by first|omega|(simp;done)|(simp;omega))
   have hxa:x3=aN:=Option.some.inj (hx3.symm.trans hN2)
   refine aX [5,6,8,9,10,28,29,30,12] [5,4,3,1] mixed rfl rfl ?_
   refine aD (kn:=[]) aa 5 rfl trivial ?_
   refine aT (n':=6) [65,67] [] rfl rfl (.inl ⟨(ak.plain rfl),aK.cast (cD (i:=Int.toNat (x1.n)) rfl rfl rfl Try.underlying31 lS (by first|omega|(simp;done)|(simp;omega)) (bp hx3)) rfl⟩) rfl ?_
   refine aD (kn:=[]) aa 9 rfl trivial ?_
   refine aT (n':=7) [77] [] rfl rfl (.inl ⟨(ak.plain rfl),aK.cast (dV (ys:=[(0,(.g [(cI x3.aE),(cI x1.n),(cI x1.move),(cI x1.sum)]))]) (rows:=([(⟨x3.aE,x1.n,x1.move,x1.sum⟩:ah)]).map fJ) 6 ox rfl (by decide) ⟨⟨rfl,rfl⟩,trivial⟩ rfl rfl rfl rfl) rfl⟩) rfl ?_
   refine aT (n':=8) [63,78] [6,4] rfl rfl (.inl ⟨(ak.plain rfl),aK.cast (dw (m:=1) (N:=tt.length+1) (k2:=7) (ys:=([(⟨x3.aE,x1.n,x1.move,x1.sum⟩:ah)]).map fJ) ox rfl rfl rfl rfl rfl rfl (by first|omega|(simp;done)|(simp;omega)) rfl (.s rfl (by first|omega|(simp;done)|(simp;omega))) (by first|omega|(simp;done)|(simp;omega)) (by first|omega|(simp;done)|(simp;omega)) fz (by decide) (by first|omega|(simp;done)|(simp;omega)) (by first|omega|(simp;done)|(simp;omega))) rfl⟩) rfl ?_
   refine bA [7,5,3,1] rfl rfl rfl rfl (by kernel_rfl) ?_
   refine ad aa 1 rfl ?_
   refine bZ ?_
   refine bm ?_
   refine bm ?_
   refine then_ok ?_
   refine ax ?_
   refine aA (aM rfl rfl rfl (aL (by first|omega|(simp;done)|(simp;omega)))) rfl ?_
   refine ad aa 1 rfl ?_
   refine af ?_
   refine ⟨(i+1,tt++([(⟨x3.aE,x1.n,x1.move,x1.sum⟩:ah)]),k,ko hl x1.id,if x1.id∈hl then cl else cl+1),(by first|exact ⟨by omega,ki hr0 (by omega) hx1 hi0_1 (by simp_all) (by simp_all)⟩|exact ⟨by omega,((fV hr0 (by omega) hx1 hx2 hi0_1).2 hn).1 (by omega)⟩|(subst hxa;exact ⟨by omega,hN3⟩)|exact ⟨by omega,hK6⟩|exact ⟨by omega,(((fV hr0 (by omega) hx1 hx2 hi0_1).2 hn).2 (by omega)).2.2 (by omega) (by omega)⟩),by first|omega|(simp;done)|(simp;omega),aH.ca (fun k=>if k=4 then 7 else k) (by refine ⟨?_,?_,?_,?_,?_,?_,?_,?_,trivial⟩<;>first|rfl|(simp only [bu];done)|(congr 3;omega)|(congr 4;omega)|(simp only [bw];rfl)|(first|exact cK rfl (by omega)|exact ja rfl (by first|omega|(simp only [List.length_append,List.length_cons,List.length_nil] at *;omega)))) (by refine ⟨?_,?_,?_,trivial⟩<;>first|rfl|(simp only [bu];done)|(congr 3;omega)|(congr 4;omega)|(simp only [bw];rfl)) rfl⟩
  have hc7':=of_decide_eq_false hc7
  refine ae aa 2 rfl ?_
  refine aj rfl (fun hc9=>?_) (fun hc9=>?_)
  ·
   have hc9':=of_decide_eq_true hc9
   refine ag ?_
   obtain ⟨hK1,⟨zK,hK2,hK3,hK4,hK5⟩,hK6⟩:=(((fV hr0 (by omega) hx1 hx2 hi0_1).2 hn).2 (by omega)).2.1 (by omega)
   refine aF aa 3 rfl ?_
   refine aA (cF rfl rfl rfl rfl rfl Try.underlying43) rfl ?_
   refine ad aa 1 rfl ?_
   refine af ?_
   refine aj rfl (fun hc10=>?_) (fun hc10=>?_)
   ·
    have hc10':=of_decide_eq_true hc10
    refine ae aa 1 rfl ?_
    refine az ?_
    refine an ?_
    refine bc ?_
    refine bc ?_
    refine an ?_
    refine an ?_
    refine bc ?_
    refine an ?_
    refine al aa [] 0 rfl rfl rfl rfl rfl rfl ?_ ?_
    ·exact congrArg aB (show (false)=true by (exfalso;first|omega|(simp_all;done)|(simp_all;omega)))
    ·rfl
   have hc10':=of_decide_eq_false hc10
   refine aS ?_
   refine aF aa 3 rfl ?_
   obtain ⟨x3,hx3⟩:=cf (xs:=y20) (i:=Int.toNat (k)) (by first|omega|(simp;done)|(simp;omega))
   have hxe:x3=zK:=Option.some.inj (hx3.symm.trans hK2)
   rw [<-hxe] at hK3 hK4 hK5
   refine aA (cD (i:=Int.toNat (k)) rfl rfl rfl Try.underlying43 Hy (by first|omega|(simp;done)|(simp;omega)) (bp hx3)) rfl ?_
   refine ad aa 1 rfl ?_
   obtain ⟨r1,e1,hr1⟩:∃ (r1:List ah) (e1:Int),gr x3=(r1,e1):=⟨_,_,rfl⟩
   obtain ⟨hq1,hq2⟩:=Prod.mk.inj (hK3.symm.trans hr1)
   refine aQ 7 [6,5,4,3,1] (cb 6 (xq x3 (by first|assumption|decide) (by first|omega|(simp;done)) r1 e1 hr1) Ir rfl rfl ⟨⟨_,rfl,.c (.d _)⟩,trivial⟩ ⟨trivial,trivial,trivial⟩ ⟨(fun _ _ _ _=>trivial),trivial⟩ rfl rfl rfl rfl) rfl ?_
   refine ad aa 5 rfl ?_
   refine af ?_
   refine ag ?_
   refine aF aa 3 rfl ?_
   refine bE (t:=98) rfl (fun hb11=>?_) (fun hb11=>?_)
   ·
    have hb11':=of_decide_eq_true hb11
    refine ad aa 6 rfl ?_
    refine af ?_
    refine aj rfl (fun _=>?_) (fun hno=>by cases hno)
    refine ae aa 1 rfl ?_
    refine az ?_
    refine an ?_
    refine bc ?_
    refine bc ?_
    refine an ?_
    refine an ?_
    refine bc ?_
    refine an ?_
    refine al aa [] 0 rfl rfl rfl rfl rfl rfl ?_ ?_
    ·exact congrArg aB (show (false)=true by (exfalso;first|omega|(simp_all;done)|(simp_all;omega)))
    ·rfl
   have hb11':=of_decide_eq_false hb11
   refine ad aa 2 rfl ?_
   obtain ⟨r3,hr3⟩:∃ (r3:List ah),dF tt=r3:=⟨_,rfl⟩
   refine uY 8 [7,6,5,4,3,1] (ak.yes rfl rfl rfl) (fe 7 [4] (wJ tt (by first|omega|(simp;done)|(simp;omega)) r3 hr3) FU rfl rfl ⟨⟨_,rfl,.c (.s rfl (by decide) (by first|omega|(simp;done)|(simp;omega)))⟩,trivial⟩ trivial ⟨(qo _),trivial⟩ rfl rfl rfl rfl) rfl ?_
   have hr4:fD r1 r3=true:=(by rw [<-hq1,hr3];exact qa _)
   refine uY 8 [7,6,5,4,3,1] (ak.yes rfl rfl rfl) (fe 8 [6,7] (oa r1 r3 true hr4) FV rfl rfl ⟨⟨_,rfl,.c (.s rfl (by decide) (by first|omega|(simp;done)|(simp;omega)))⟩,⟨_,rfl,.c (.s rfl (by decide) (by first|omega|(simp;done)|(simp;omega)))⟩,trivial⟩ rfl trivial rfl rfl rfl rfl) rfl ?_
   refine ad aa 2 rfl ?_
   refine af ?_
   refine aj rfl (fun hno=>by cases hno) (fun _=>?_)
   refine aS ?_
   refine ae aa 1 rfl ?_
   refine gI (aH.nil 8 83 4 (by decide) rfl) ?_
   refine ax ?_
   refine ad aa 1 rfl ?_
   refine aA (aM rfl rfl rfl (aL (by first|omega|(simp;done)|(simp;omega)))) rfl ?_
   refine ad aa 1 rfl ?_
   refine bZ ?_
   refine bm ?_
   refine bm ?_
   refine then_ok ?_
   refine ax ?_
   refine aA (aM rfl rfl rfl (aL (by first|omega|(simp;done)|(simp;omega)))) rfl ?_
   refine ad aa 1 rfl ?_
   refine af ?_
   refine ⟨(i+1,([]:List ah),k+1,ko hl x1.id,if x1.id∈hl then cl else cl+1),(by first|exact ⟨by omega,ki hr0 (by omega) hx1 hi0_1 (by simp_all) (by simp_all)⟩|exact ⟨by omega,((fV hr0 (by omega) hx1 hx2 hi0_1).2 hn).1 (by omega)⟩|(subst hxa;exact ⟨by omega,hN3⟩)|exact ⟨by omega,hK6⟩|exact ⟨by omega,(((fV hr0 (by omega) hx1 hx2 hi0_1).2 hn).2 (by omega)).2.2 (by omega) (by omega)⟩),by first|omega|(simp;done)|(simp;omega),aH.ca (fun k=>if k=4 then 8 else k) (by refine ⟨?_,?_,?_,?_,?_,?_,?_,?_,trivial⟩<;>first|rfl|(simp only [bu];done)|(congr 3;omega)|(congr 4;omega)|(simp only [bw];rfl)|(first|exact cK rfl (by omega)|exact ja rfl (by first|omega|(simp only [List.length_append,List.length_cons,List.length_nil] at *;omega)))) (by refine ⟨?_,?_,?_,trivial⟩<;>first|rfl|(simp only [bu];done)|(congr 3;omega)|(congr 4;omega)|(simp only [bw];rfl)) rfl⟩
  have hc9':=of_decide_eq_false hc9
  refine da ?_
  refine bm ?_
  refine bm ?_
  refine then_ok ?_
  refine ax ?_
  refine aA (aM rfl rfl rfl (aL (by first|omega|(simp;done)|(simp;omega)))) rfl ?_
  refine ad aa 1 rfl ?_
  refine af ?_
  refine ⟨(i+1,tt,k,ko hl x1.id,if x1.id∈hl then cl else cl+1),(by first|exact ⟨by omega,ki hr0 (by omega) hx1 hi0_1 (by simp_all) (by simp_all)⟩|exact ⟨by omega,((fV hr0 (by omega) hx1 hx2 hi0_1).2 hn).1 (by omega)⟩|(subst hxa;exact ⟨by omega,hN3⟩)|exact ⟨by omega,hK6⟩|exact ⟨by omega,(((fV hr0 (by omega) hx1 hx2 hi0_1).2 hn).2 (by omega)).2.2 (by omega) (by omega)⟩),by first|omega|(simp;done)|(simp;omega),aH.ca id (by refine ⟨?_,?_,?_,?_,?_,?_,?_,?_,trivial⟩<;>first|rfl|(simp only [bu];done)|(congr 3;omega)|(congr 4;omega)|(simp only [bw];rfl)|(first|exact cK rfl (by omega)|exact ja rfl (by first|omega|(simp only [List.length_append,List.length_cons,List.length_nil] at *;omega)))) (by refine ⟨?_,?_,?_,trivial⟩<;>first|rfl|(simp only [bu];done)|(congr 3;omega)|(congr 4;omega)|(simp only [bw];rfl)) rfl⟩
 have hc3':=of_decide_eq_false hc3
 refine cv ?_
 refine aU ?_
 refine aU ?_
 refine bS ?_
 refine then_ok ?_
 obtain ⟨hfe1,hfe2⟩:=AZ hr0 (by omega) (show FJ s l l.length tt k hl by rw [show l.length=i by omega];exact hi0_1)
 have hr5:fD tt b20.aP=true:=(by rw [hfe2];exact qa _)
 refine cw 4 ((decide (k=(↑y20.length:Int)))||false) ?_ ?_
 ·
  refine ax ?_
  refine ad aa 3 rfl ?_
  refine aA (cF rfl rfl rfl rfl rfl Try.underlying43) rfl ?_
  refine ad aa 2 rfl ?_
  refine bE (t:=113) rfl (fun hb14=>?_) (fun hb14=>?_)
  ·
   have hb14':=of_decide_eq_true hb14
   refine ad aa 3 rfl ?_
   refine uY 5 [4,3,1] (ak.yes rfl rfl rfl) (fe 5 [4] (oa tt b20.aP true hr5) FV rfl rfl ⟨⟨_,rfl,.c (.s rfl (by decide) (by first|omega|(simp;done)|(simp;omega)))⟩,⟨_,rfl,.c (.d _)⟩,trivial⟩ rfl trivial rfl rfl rfl rfl) rfl ?_
   refine ad aa 2 rfl ?_
   refine af ?_
   exact aH.bD 13 rfl rfl (by first|(simp [hb14];done)|(simp_all;done)|(exfalso;simp_all;done)|(simp_all;omega)) rfl
  have hb14':=of_decide_eq_false hb14
  refine ad aa 6 rfl ?_
  refine af ?_
  exact aH.bD 13 rfl rfl (by first|(simp [hb14];done)|(simp_all;done)|(exfalso;simp_all;done)|(simp_all;omega)) rfl
 refine az ?_
 refine al aa [] 0 rfl rfl rfl rfl rfl rfl ?_ ?_
 ·exact congrArg aB (show ((decide (k=(↑y20.length:Int)))||false)=true by (first|(simp;omega)|(simp_all;done)|(simp_all;omega)))
 ·rfl
end Go.Proofs.Ytegepioggeggaaa.Dev
