/- The plain data, and how they lie in cells; no condition. -/
import Derived.Test.YtgmcdlfmifijlaaDSh15
set_option linter.unusedVariables false
set_option linter.unusedSimpArgs false
namespace Go.Proofs.Ytgmcdlfmifijlaa.Dev
open Go.RowKit

structure Advice where (card shop sum time : Int)
  deriving DecidableEq
structure Use where (time sum : Int)
  deriving DecidableEq
structure Transfer where (number kind auth sum : Int)
  deriving DecidableEq
structure Entry where (account sum : Int)
  deriving DecidableEq
structure Record where (shop auth kind sum : Int)
  deriving DecidableEq
structure Act where (kind at_ sum : Int)
  deriving DecidableEq
structure Step where (kind n : Int)
  deriving DecidableEq
structure Pace where (ticks count sum : Int)
  deriving DecidableEq
structure Fault where (err at_ : Int)
  deriving DecidableEq
structure Card where (money held : Int) (pace : Pace) (uses : List Use)
  deriving DecidableEq
structure Sender where (sent : Int) (kept : List Transfer)
  deriving DecidableEq
def rI (n : Int) : List D := [dI n]
def rU8 (n : Int) : List D := [.v (.int .u8 n)]
def rAdvice (x : Advice) : List D := [dI x.card, dI x.shop, dI x.sum, dI x.time]
def rUse (x : Use) : List D := [dI x.time, dI x.sum]
def rTransfer (x : Transfer) : List D := [dI x.number, dI x.kind, dI x.auth, dI x.sum]
def rEntry (x : Entry) : List D := [dI x.account, dI x.sum]
def rRecord (x : Record) : List D := [dI x.shop, dI x.auth, dI x.kind, dI x.sum]
def rAct (x : Act) : List D := [dI x.kind, dI x.at_, dI x.sum]
def rStep (x : Step) : List D := [dI x.kind, dI x.n]
def rLAdvice (l : List Advice) : List D := [.r 4 (l.map rAdvice)]
def rLUse (l : List Use) : List D := [.r 2 (l.map rUse)]
def rLTransfer (l : List Transfer) : List D := [.r 4 (l.map rTransfer)]
def rLEntry (l : List Entry) : List D := [.r 2 (l.map rEntry)]
def rLRecord (l : List Record) : List D := [.r 4 (l.map rRecord)]
def rLAct (l : List Act) : List D := [.r 3 (l.map rAct)]
def rLStep (l : List Step) : List D := [.r 2 (l.map rStep)]
theorem isv_rI (l : List Int) : ∀ row ∈ l.map rI, ∀ d ∈ row, d.isV = true := by
  intro row hr d hd
  obtain ⟨x, _, rfl⟩ := List.mem_map.1 hr
  simp [rI] at hd
  subst hd; rfl
theorem isv_rU8 (l : List Int) : ∀ row ∈ l.map rU8, ∀ d ∈ row, d.isV = true := by
  intro row hr d hd
  obtain ⟨x, _, rfl⟩ := List.mem_map.1 hr
  simp [rU8] at hd
  subst hd; rfl
theorem isv_rAdvice (l : List Advice) : ∀ row ∈ l.map rAdvice, ∀ d ∈ row, d.isV = true := by
  intro row hr d hd
  obtain ⟨x, _, rfl⟩ := List.mem_map.1 hr
  simp [rAdvice] at hd
  rcases hd with rfl | rfl | rfl | rfl <;> rfl
theorem isv_rUse (l : List Use) : ∀ row ∈ l.map rUse, ∀ d ∈ row, d.isV = true := by
  intro row hr d hd
  obtain ⟨x, _, rfl⟩ := List.mem_map.1 hr
  simp [rUse] at hd
  rcases hd with rfl | rfl <;> rfl
theorem isv_rTransfer (l : List Transfer) : ∀ row ∈ l.map rTransfer, ∀ d ∈ row, d.isV = true := by
  intro row hr d hd
  obtain ⟨x, _, rfl⟩ := List.mem_map.1 hr
  simp [rTransfer] at hd
  rcases hd with rfl | rfl | rfl | rfl <;> rfl
theorem isv_rEntry (l : List Entry) : ∀ row ∈ l.map rEntry, ∀ d ∈ row, d.isV = true := by
  intro row hr d hd
  obtain ⟨x, _, rfl⟩ := List.mem_map.1 hr
  simp [rEntry] at hd
  rcases hd with rfl | rfl <;> rfl
theorem isv_rRecord (l : List Record) : ∀ row ∈ l.map rRecord, ∀ d ∈ row, d.isV = true := by
  intro row hr d hd
  obtain ⟨x, _, rfl⟩ := List.mem_map.1 hr
  simp [rRecord] at hd
  rcases hd with rfl | rfl | rfl | rfl <;> rfl
theorem isv_rAct (l : List Act) : ∀ row ∈ l.map rAct, ∀ d ∈ row, d.isV = true := by
  intro row hr d hd
  obtain ⟨x, _, rfl⟩ := List.mem_map.1 hr
  simp [rAct] at hd
  rcases hd with rfl | rfl | rfl <;> rfl
theorem isv_rStep (l : List Step) : ∀ row ∈ l.map rStep, ∀ d ∈ row, d.isV = true := by
  intro row hr d hd
  obtain ⟨x, _, rfl⟩ := List.mem_map.1 hr
  simp [rStep] at hd
  rcases hd with rfl | rfl <;> rfl
end Go.Proofs.Ytgmcdlfmifijlaa.Dev
