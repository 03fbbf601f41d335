/- What a text writes as a number: plain lists of bytes, no program. -/
import Derived.Lib.AtoiTie
import Derived.Lib.SlTrimSet
import Derived.Lib.Strings
namespace Go.Proofs.YtjgmkimekipgmaaGreatDoor.G
open Go.Lib
set_option linter.unusedVariables false

def isDig (c : UInt8) : Bool := decide (48 ≤ c.toNat) && decide (c.toNat ≤ 57)
def decV (acc : Nat) (l : List UInt8) : Nat := l.foldl (fun n c => 10 * n + (c.toNat - 48)) acc
def negB (l : List UInt8) : Bool := hasPrefix l [45]
def digS (l : List UInt8) : List UInt8 := trimPrefix l [45]
def numOk (l : List UInt8) : Bool := !(digS l).isEmpty && decide ((digS l).length ≤ 18) && (digS l).all isDig
def numS (l : List UInt8) : Int := if numOk l then (if negB l then -(decV 0 (digS l) : Int) else (decV 0 (digS l) : Int)) else 0
def tens : List UInt8 := [48, 49, 50, 51, 52, 53, 54, 55, 56, 57]

theorem tens_dig (c : UInt8) : tens.contains c = isDig c := by
  have : ∀ n : Fin 256, tens.contains (UInt8.ofNat n.val) = isDig (UInt8.ofNat n.val) := by decide +kernel
  have h := this ⟨c.toNat, c.toNat_lt⟩
  simpa using h
theorem decFrom_all : ∀ (l : List UInt8) (acc : Nat), l.all isDig = true → decFrom acc l = some (decV acc l)
  | [], acc, _ => rfl
  | c :: r, acc, h => by
    simp only [List.all_cons, Bool.and_eq_true] at h
    have hc : 48 ≤ c.toNat ∧ c.toNat ≤ 57 := by simpa [isDig] using h.1
    simp only [decFrom]
    rw [show digitVal c = some (c.toNat - 48) from by simp [digitVal, hc]]
    simp only
    have e := decFrom_all r (10 * acc + (c.toNat - 48)) h.2
    have e2 : acc * 10 + (c.toNat - 48) = 10 * acc + (c.toNat - 48) := by omega
    first
      | exact e
      | (rw [e2]; exact e)
theorem trimS_nil (l : List UInt8) : (trimS l tens).isEmpty = l.all isDig := by
  have hp : (fun b => tens.contains b) = isDig := funext tens_dig
  unfold trimS trimLeftS trimRightS
  rw [hp]
  have key : ∀ m : List UInt8, (m.dropWhile isDig).isEmpty = m.all isDig := by
    intro m
    induction m with
    | nil => rfl
    | cons c r ih => by_cases h : isDig c = true <;> simp [h, ih]
  rw [key]
  have h2 : ∀ m : List UInt8, (m.dropWhile isDig).all isDig = m.all isDig := by
    intro m
    induction m with
    | nil => rfl
    | cons c r ih => by_cases h : isDig c = true <;> simp [h, ih]
  rw [List.all_reverse, h2, List.all_reverse]
theorem negB_iff (l : List UInt8) : negB l = true → l = 45 :: digS l := by
  intro h
  unfold negB hasPrefix at h
  cases l with
  | nil => simp at h
  | cons c r =>
    simp at h
    subst h
    unfold digS trimPrefix hasPrefix
    simp
theorem negB_not (l : List UInt8) : negB l = false → digS l = l := by
  intro h
  unfold negB at h
  unfold digS trimPrefix
  rw [h]
  rfl
theorem atoi_num (l : List UInt8) (h : numOk l = true) : atoiAll l = .ok (numS l) := by
  have hn : numS l = if negB l then -(decV 0 (digS l) : Int) else (decV 0 (digS l) : Int) := by unfold numS; rw [if_pos h]
  unfold numOk at h
  simp only [Bool.and_eq_true, decide_eq_true_eq, Bool.not_eq_true'] at h
  obtain ⟨⟨h1, h2⟩, h3⟩ := h
  have hd : decNat (digS l) = some (decV 0 (digS l)) := by
    unfold decNat
    rw [h1]
    exact decFrom_all _ _ h3
  cases hb : negB l with
  | true =>
    have e := negB_iff l hb
    rw [hn, hb]
    generalize digS l = d at *
    subst e
    rw [atoiAll_minus, signed_short h2, hd]
    rfl
  | false =>
    have e := negB_not l hb
    rw [hn, hb]
    rw [e] at h1 h2 h3 hd ⊢
    cases l with
    | nil => simp at h1
    | cons c r =>
      have hc : 48 ≤ c.toNat ∧ c.toNat ≤ 57 := by
        simp only [List.all_cons, Bool.and_eq_true] at h3
        simpa [isDig] using h3.1
      rw [atoiAll_plain c r (by omega) (by omega), signless_short h2, hd]
      rfl
end Go.Proofs.YtjgmkimekipgmaaGreatDoor.G
