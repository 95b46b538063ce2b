/- What the parameters read as: openings of the struct types; no condition. -/
import Derived.Test.YtgmcdlfmifijlaaDOpn
import Derived.Test.YtgmcdlfmifijlaaDTy
import Derived.Test.YtgmcdlfmifijlaaDPlStand
import Derived.Test.YtgmcdlfmifijlaaDPlAuth
set_option linter.unusedVariables false
set_option linter.unusedSimpArgs false
namespace Go.Proofs.Ytgmcdlfmifijlaa.Dev
open Go.RowKit
open Go.ChangeShapes Go.WideShapes Go.Deep Go.Joins
def cAuth (x : Auth) : List D := [dI x.card, dI x.shop, dI x.sum, dI x.captured, dI x.refunded, dI x.disputed, dI x.till, dB x.shut]
def okAuth (x : Auth) : Prop := InI x.card ∧ InI x.shop ∧ InI x.sum ∧ InI x.captured ∧ InI x.refunded ∧ InI x.disputed ∧ InI x.till
theorem opens_Auth : Opens Try.prog 75 8 cAuth okAuth := ⟨fun _ => rfl, fun H enc w base spare held n cs y h => by
  obtain ⟨hl, m, hF⟩ := fields_of Try.underlying75 h
  obtain ⟨⟨a0, q0, r0⟩, hF⟩ := fields_cons (o := 0) (o' := 1) hF (opens_int Try.underlying3) rfl (by kernel_rfl) rfl
  obtain ⟨⟨a1, q1, r1⟩, hF⟩ := fields_cons (o := 1) (o' := 2) hF (opens_int Try.underlying3) rfl (by kernel_rfl) rfl
  obtain ⟨⟨a2, q2, r2⟩, hF⟩ := fields_cons (o := 2) (o' := 3) hF (opens_int Try.underlying3) rfl (by kernel_rfl) rfl
  obtain ⟨⟨a3, q3, r3⟩, hF⟩ := fields_cons (o := 3) (o' := 4) hF (opens_int Try.underlying3) rfl (by kernel_rfl) rfl
  obtain ⟨⟨a4, q4, r4⟩, hF⟩ := fields_cons (o := 4) (o' := 5) hF (opens_int Try.underlying3) rfl (by kernel_rfl) rfl
  obtain ⟨⟨a5, q5, r5⟩, hF⟩ := fields_cons (o := 5) (o' := 6) hF (opens_int Try.underlying3) rfl (by kernel_rfl) rfl
  obtain ⟨⟨a6, q6, r6⟩, hF⟩ := fields_cons (o := 6) (o' := 7) hF (opens_int Try.underlying3) rfl (by kernel_rfl) rfl
  obtain ⟨⟨a7, q7, r7⟩, hF⟩ := fields_cons (o := 7) (o' := 8) hF (opens_bool Try.underlying4) rfl (by kernel_rfl) rfl
  exact ⟨⟨a0, a1, a2, a3, a4, a5, a6, a7⟩, r0 _ (r1 _ (r2 _ (r3 _ (r4 _ (r5 _ (r6 _ (r7 _ (fields_end (hl.trans (by kernel_rfl)))))))))), q0, q1, q2, q3, q4, q5, q6⟩⟩
def okAdvice (x : Advice) : Prop := InI x.card ∧ InI x.shop ∧ InI x.sum ∧ InI x.time
theorem opens_Advice : Opens Try.prog 32 4 rAdvice okAdvice := ⟨fun _ => rfl, fun H enc w base spare held n cs y h => by
  obtain ⟨hl, m, hF⟩ := fields_of Try.underlying32 h
  obtain ⟨⟨a0, q0, r0⟩, hF⟩ := fields_cons (o := 0) (o' := 1) hF (opens_int Try.underlying3) rfl (by kernel_rfl) rfl
  obtain ⟨⟨a1, q1, r1⟩, hF⟩ := fields_cons (o := 1) (o' := 2) hF (opens_int Try.underlying3) rfl (by kernel_rfl) rfl
  obtain ⟨⟨a2, q2, r2⟩, hF⟩ := fields_cons (o := 2) (o' := 3) hF (opens_int Try.underlying3) rfl (by kernel_rfl) rfl
  obtain ⟨⟨a3, q3, r3⟩, hF⟩ := fields_cons (o := 3) (o' := 4) hF (opens_int Try.underlying3) rfl (by kernel_rfl) rfl
  exact ⟨⟨a0, a1, a2, a3⟩, r0 _ (r1 _ (r2 _ (r3 _ (fields_end (hl.trans (by kernel_rfl)))))), q0, q1, q2, q3⟩⟩
def okUse (x : Use) : Prop := InI x.time ∧ InI x.sum
theorem opens_Use : Opens Try.prog 44 2 rUse okUse := ⟨fun _ => rfl, fun H enc w base spare held n cs y h => by
  obtain ⟨hl, m, hF⟩ := fields_of Try.underlying44 h
  obtain ⟨⟨a0, q0, r0⟩, hF⟩ := fields_cons (o := 0) (o' := 1) hF (opens_int Try.underlying3) rfl (by kernel_rfl) rfl
  obtain ⟨⟨a1, q1, r1⟩, hF⟩ := fields_cons (o := 1) (o' := 2) hF (opens_int Try.underlying3) rfl (by kernel_rfl) rfl
  exact ⟨⟨a0, a1⟩, r0 _ (r1 _ (fields_end (hl.trans (by kernel_rfl)))), q0, q1⟩⟩
def okTransfer (x : Transfer) : Prop := InI x.number ∧ InI x.kind ∧ InI x.auth ∧ InI x.sum
theorem opens_Transfer : Opens Try.prog 60 4 rTransfer okTransfer := ⟨fun _ => rfl, fun H enc w base spare held n cs y h => by
  obtain ⟨hl, m, hF⟩ := fields_of Try.underlying60 h
  obtain ⟨⟨a0, q0, r0⟩, hF⟩ := fields_cons (o := 0) (o' := 1) hF (opens_int Try.underlying3) rfl (by kernel_rfl) rfl
  obtain ⟨⟨a1, q1, r1⟩, hF⟩ := fields_cons (o := 1) (o' := 2) hF (opens_int Try.underlying3) rfl (by kernel_rfl) rfl
  obtain ⟨⟨a2, q2, r2⟩, hF⟩ := fields_cons (o := 2) (o' := 3) hF (opens_int Try.underlying3) rfl (by kernel_rfl) rfl
  obtain ⟨⟨a3, q3, r3⟩, hF⟩ := fields_cons (o := 3) (o' := 4) hF (opens_int Try.underlying3) rfl (by kernel_rfl) rfl
  exact ⟨⟨a0, a1, a2, a3⟩, r0 _ (r1 _ (r2 _ (r3 _ (fields_end (hl.trans (by kernel_rfl)))))), q0, q1, q2, q3⟩⟩
def okEntry (x : Entry) : Prop := InI x.account ∧ InI x.sum
theorem opens_Entry : Opens Try.prog 111 2 rEntry okEntry := ⟨fun _ => rfl, fun H enc w base spare held n cs y h => by
  obtain ⟨hl, m, hF⟩ := fields_of Try.underlying111 h
  obtain ⟨⟨a0, q0, r0⟩, hF⟩ := fields_cons (o := 0) (o' := 1) hF (opens_int Try.underlying3) rfl (by kernel_rfl) rfl
  obtain ⟨⟨a1, q1, r1⟩, hF⟩ := fields_cons (o := 1) (o' := 2) hF (opens_int Try.underlying3) rfl (by kernel_rfl) rfl
  exact ⟨⟨a0, a1⟩, r0 _ (r1 _ (fields_end (hl.trans (by kernel_rfl)))), q0, q1⟩⟩
def okRecord (x : Record) : Prop := InI x.shop ∧ InI x.auth ∧ InI x.kind ∧ InI x.sum
theorem opens_Record : Opens Try.prog 127 4 rRecord okRecord := ⟨fun _ => rfl, fun H enc w base spare held n cs y h => by
  obtain ⟨hl, m, hF⟩ := fields_of Try.underlying127 h
  obtain ⟨⟨a0, q0, r0⟩, hF⟩ := fields_cons (o := 0) (o' := 1) hF (opens_int Try.underlying3) rfl (by kernel_rfl) rfl
  obtain ⟨⟨a1, q1, r1⟩, hF⟩ := fields_cons (o := 1) (o' := 2) hF (opens_int Try.underlying3) rfl (by kernel_rfl) rfl
  obtain ⟨⟨a2, q2, r2⟩, hF⟩ := fields_cons (o := 2) (o' := 3) hF (opens_int Try.underlying3) rfl (by kernel_rfl) rfl
  obtain ⟨⟨a3, q3, r3⟩, hF⟩ := fields_cons (o := 3) (o' := 4) hF (opens_int Try.underlying3) rfl (by kernel_rfl) rfl
  exact ⟨⟨a0, a1, a2, a3⟩, r0 _ (r1 _ (r2 _ (r3 _ (fields_end (hl.trans (by kernel_rfl)))))), q0, q1, q2, q3⟩⟩
def cPace (x : Pace) : List D := [dI x.ticks, dI x.count, dI x.sum]
def okPace (x : Pace) : Prop := InI x.ticks ∧ InI x.count ∧ InI x.sum
theorem opens_Pace : Opens Try.prog 41 3 cPace okPace := ⟨fun _ => rfl, fun H enc w base spare held n cs y h => by
  obtain ⟨hl, m, hF⟩ := fields_of Try.underlying41 h
  obtain ⟨⟨a0, q0, r0⟩, hF⟩ := fields_cons (o := 0) (o' := 1) hF (opens_int Try.underlying3) rfl (by kernel_rfl) rfl
  obtain ⟨⟨a1, q1, r1⟩, hF⟩ := fields_cons (o := 1) (o' := 2) hF (opens_int Try.underlying3) rfl (by kernel_rfl) rfl
  obtain ⟨⟨a2, q2, r2⟩, hF⟩ := fields_cons (o := 2) (o' := 3) hF (opens_int Try.underlying3) rfl (by kernel_rfl) rfl
  exact ⟨⟨a0, a1, a2⟩, r0 _ (r1 _ (r2 _ (fields_end (hl.trans (by kernel_rfl))))), q0, q1, q2⟩⟩
def cStand (x : Stand) : List D := [dI x.cap, .r 1 (x.used.map rI), .r 4 (x.advices.map rAdvice)]
def okStand (x : Stand) : Prop := InI x.cap ∧ ((∀ y ∈ x.used, InI y) ∧ x.used.length ≤ 9223372036854775807) ∧ ((∀ y ∈ x.advices, okAdvice y) ∧ x.advices.length ≤ 9223372036854775807)
theorem opens_Stand : Opens Try.prog 26 3 cStand okStand := ⟨fun _ => rfl, fun H enc w base spare held n cs y h => by
  obtain ⟨hl, m, hF⟩ := fields_of Try.underlying26 h
  obtain ⟨⟨a0, q0, r0⟩, hF⟩ := fields_cons (o := 0) (o' := 1) hF (opens_int Try.underlying3) rfl (by kernel_rfl) rfl
  obtain ⟨⟨a1, q1, r1⟩, hF⟩ := fields_cons (o := 1) (o' := 2) hF (opens_slice Try.underlying24 (by kernel_rfl) (by decide) (opens_int Try.underlying3)) rfl (by kernel_rfl) rfl
  obtain ⟨⟨a2, q2, r2⟩, hF⟩ := fields_cons (o := 2) (o' := 3) hF (opens_slice Try.underlying22 (by kernel_rfl) (by decide) opens_Advice) rfl (by kernel_rfl) rfl
  exact ⟨⟨a0, a1, a2⟩, r0 _ (r1 _ (r2 _ (fields_end (hl.trans (by kernel_rfl))))), q0, q1, q2⟩⟩
def cCard (x : Card) : List D := [dI x.money, dI x.held, dI x.pace.ticks, dI x.pace.count, dI x.pace.sum, .r 2 (x.uses.map rUse)]
def okCard (x : Card) : Prop := InI x.money ∧ InI x.held ∧ okPace x.pace ∧ ((∀ y ∈ x.uses, okUse y) ∧ x.uses.length ≤ 9223372036854775807)
theorem opens_Card : Opens Try.prog 92 6 cCard okCard := ⟨fun _ => rfl, fun H enc w base spare held n cs y h => by
  obtain ⟨hl, m, hF⟩ := fields_of Try.underlying92 h
  obtain ⟨⟨a0, q0, r0⟩, hF⟩ := fields_cons (o := 0) (o' := 1) hF (opens_int Try.underlying3) rfl (by kernel_rfl) rfl
  obtain ⟨⟨a1, q1, r1⟩, hF⟩ := fields_cons (o := 1) (o' := 2) hF (opens_int Try.underlying3) rfl (by kernel_rfl) rfl
  obtain ⟨⟨a2, q2, r2⟩, hF⟩ := fields_cons (o := 2) (o' := 5) hF opens_Pace rfl (by kernel_rfl) rfl
  obtain ⟨⟨a3, q3, r3⟩, hF⟩ := fields_cons (o := 5) (o' := 6) hF (opens_slice Try.underlying42 (by kernel_rfl) (by decide) opens_Use) rfl (by kernel_rfl) rfl
  exact ⟨⟨a0, a1, a2, a3⟩, r0 _ (r1 _ (r2 _ (r3 _ (fields_end (hl.trans (by kernel_rfl)))))), q0, q1, q2, q3⟩⟩
def cSender (x : Sender) : List D := [dI x.sent, .r 4 (x.kept.map rTransfer)]
def okSender (x : Sender) : Prop := InI x.sent ∧ ((∀ y ∈ x.kept, okTransfer y) ∧ x.kept.length ≤ 9223372036854775807)
theorem opens_Sender : Opens Try.prog 58 2 cSender okSender := ⟨fun _ => rfl, fun H enc w base spare held n cs y h => by
  obtain ⟨hl, m, hF⟩ := fields_of Try.underlying58 h
  obtain ⟨⟨a0, q0, r0⟩, hF⟩ := fields_cons (o := 0) (o' := 1) hF (opens_int Try.underlying3) rfl (by kernel_rfl) rfl
  obtain ⟨⟨a1, q1, r1⟩, hF⟩ := fields_cons (o := 1) (o' := 2) hF (opens_slice Try.underlying56 (by kernel_rfl) (by decide) opens_Transfer) rfl (by kernel_rfl) rfl
  exact ⟨⟨a0, a1⟩, r0 _ (r1 _ (fields_end (hl.trans (by kernel_rfl)))), q0, q1⟩⟩
def okStep (x : Step) : Prop := InI x.kind ∧ InI x.n
theorem opens_Step : Opens Try.prog 86 2 rStep okStep := ⟨fun _ => rfl, fun H enc w base spare held n cs y h => by
  obtain ⟨hl, m, hF⟩ := fields_of Try.underlying86 h
  obtain ⟨⟨a0, q0, r0⟩, hF⟩ := fields_cons (o := 0) (o' := 1) hF (opens_int Try.underlying3) rfl (by kernel_rfl) rfl
  obtain ⟨⟨a1, q1, r1⟩, hF⟩ := fields_cons (o := 1) (o' := 2) hF (opens_int Try.underlying3) rfl (by kernel_rfl) rfl
  exact ⟨⟨a0, a1⟩, r0 _ (r1 _ (fields_end (hl.trans (by kernel_rfl)))), q0, q1⟩⟩
def okAct (x : Act) : Prop := InI x.kind ∧ InI x.at_ ∧ InI x.sum
theorem opens_Act : Opens Try.prog 71 3 rAct okAct := ⟨fun _ => rfl, fun H enc w base spare held n cs y h => by
  obtain ⟨hl, m, hF⟩ := fields_of Try.underlying71 h
  obtain ⟨⟨a0, q0, r0⟩, hF⟩ := fields_cons (o := 0) (o' := 1) hF (opens_int Try.underlying3) rfl (by kernel_rfl) rfl
  obtain ⟨⟨a1, q1, r1⟩, hF⟩ := fields_cons (o := 1) (o' := 2) hF (opens_int Try.underlying3) rfl (by kernel_rfl) rfl
  obtain ⟨⟨a2, q2, r2⟩, hF⟩ := fields_cons (o := 2) (o' := 3) hF (opens_int Try.underlying3) rfl (by kernel_rfl) rfl
  exact ⟨⟨a0, a1, a2⟩, r0 _ (r1 _ (r2 _ (fields_end (hl.trans (by kernel_rfl))))), q0, q1, q2⟩⟩
end Go.Proofs.Ytgmcdlfmifijlaa.Dev
