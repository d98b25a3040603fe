/- find: the small functions of both sides compute the same plain words. -/
import Derived.Lib.Strings
import Derived.Test.YtejhfghijgbckaaGreatDoorFindSpec
namespace Go.Proofs.YtejhfghijgbckaaGreatDoor.Spec
open Go.RowKit Go.Proofs.YtejhfghijgbckaaGreatDoor Go.Proofs.YtejhfghijgbckaaGreatDoor.P Go.Proofs.YtejhfghijgbckaaGreatDoorW.PrintWords Go.Proofs.YtejhfghijgbckaaGreatDoorW.PrintLast Go.Proofs.YtejhfghijgbckaaGreatDoorW.PrintMore
set_option linter.unusedVariables false
set_option linter.unusedSimpArgs false
def fl (w : List UInt8) : Int :=
  if w = [115, 101, 101, 110] then 1 else if w = [97, 110, 115, 119, 101, 114, 101, 100] then 2 else if w = [102, 108, 97, 103, 103, 101, 100] then 4
  else if w = [100, 101, 108, 101, 116, 101, 100] then 8 else if w = [100, 114, 97, 102, 116] then 16 else 0
def trimUn (w : List UInt8) : List UInt8 := if w.take 2 = [117, 110] then w.drop 2 else w
theorem smallF_eq (s : ByteArray) (h : s.size ≤ 2000) : find_small.f s = some (lowB s) := by
  unfold find_small.f
  rw [if_pos (by omega)]
theorem flagF_eq (v : ByteArray) : find_flag.f v = some (fl v.toList) := by
  unfold find_flag.f fl
  split
  · rfl
  split
  · rfl
  split
  · rfl
  split
  · rfl
  split
  · rfl
  · rfl
theorem trimUn_eq (w : ByteArray) : strings_TrimPrefix.f w (⟨#[117, 110]⟩ : ByteArray) = some (mk (trimUn w.toList)) := by
  unfold strings_TrimPrefix.f Lib.trimPrefix Lib.hasPrefix trimUn mk
  rw [Lib.toList_data]
  have key : ∀ l : List UInt8, List.isPrefixOf [117, 110] l = decide (l.take 2 = [117, 110]) := by
    intro l
    match l with
    | [] => rfl
    | [a] =>
      simp [List.isPrefixOf]
    | a :: b :: r =>
      rw [Bool.eq_iff_iff, decide_eq_true_iff]
      simp only [List.isPrefixOf, List.take_succ_cons, List.take_zero, List.cons.injEq, and_true, Bool.and_true, Bool.and_eq_true, beq_iff_eq]
      exact ⟨fun h => ⟨h.1.symm, h.2.symm⟩, fun h => ⟨h.1.symm, h.2.symm⟩⟩
  by_cases h : w.data.toList.take 2 = [117, 110]
  · rw [if_pos h, if_pos (by rw [show (⟨#[117, 110]⟩ : ByteArray).data.toList = [117, 110] from rfl, key, decide_eq_true h])]
    rfl
  · rw [if_neg h, if_neg (by rw [show (⟨#[117, 110]⟩ : ByteArray).data.toList = [117, 110] from rfl, key, decide_eq_false h]; decide)]
/-! ### Sets -/
def setS (s : ByteArray) : List Rg × Int := ans (goP (pieces 44 s.data.toList) [])
theorem setF_eq (s : ByteArray) (b : Bool) (h : s.size ≤ 100000) : setF s b = some ((setS s).1, if (setS s).2 = 0 then b else true) := by
  unfold setF
  have e := UParse_eq (4 * s.size + 2010) s.data.toList (by rw [← Lib.size_eq]; exact h) (by rw [← Lib.size_eq]; omega)
  rw [mk_of] at e
  rw [e]
  rfl
end Go.Proofs.YtejhfghijgbckaaGreatDoor.Spec
