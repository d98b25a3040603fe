/- What Top computes. -/
import Derived.Test.YtlicjigofnbpjaaDoorHeadImpl7
import Derived.Test.YtlicjigofnbpjaaDoorPx126
namespace Go.Proofs.YtlicjigofnbpjaaDoor.Pure
open Go.RowKit Go.Proofs.YtlicjigofnbpjaaDoor Go.Proofs.YtlicjigofnbpjaaDoor.P Go.Proofs.YtlicjigofnbpjaaDoor.Spec Go.Proofs.YtlicjigofnbpjaaDoorW.PrintWords Go.Proofs.YtlicjigofnbpjaaDoorW.PrintLast Go.Proofs.YtlicjigofnbpjaaDoorW.PrintMore

/-- So many lines behind the head. -/
def tlines (l : List Int) (n : Int) : List (List Int) := (lines (l.drop (hend l))).take (mn (mx n 0) ((lines (l.drop (hend l))).length : Int)).toNat
def utop (l : List Int) (n : Int) : List Int := l.take (hend l + (tlines l n).flatten.length)
theorem take_flat_le (ls : List (List Int)) (n : Nat) : (ls.take n).flatten.length ≤ ls.flatten.length := by
  have := congrArg (fun x => x.flatten.length) (List.take_append_drop n ls)
  simp only [List.flatten_append, List.length_append] at this
  omega
theorem tlines_le (l : List Int) (n : Int) : hend l + (tlines l n).flatten.length ≤ l.length := by
  have h1 := hend_le l
  have h2 := take_flat_le (lines (l.drop (hend l))) (mn (mx n 0) ((lines (l.drop (hend l))).length : Int)).toNat
  rw [lines_flatten, List.length_drop] at h2
  unfold tlines
  omega
theorem utop_le (l : List Int) (n : Int) : (utop l n).length ≤ l.length := by
  unfold utop
  rw [List.length_take]
  omega
theorem UTop_l0 (l : List Int) (hl : l.length ≤ 50000) (ls : List (List Int)) (hn : ls.length ≤ 100000) : ∀ (k i m : Nat), i ≤ ls.length → ls.length - i < k → m + (ls.drop i).flatten.length ≤ l.length → head_Top.l0 k l m ls ls.length i = some (l.take (m + (ls.drop i).flatten.length))
  | 0, _, _, _, h, _ => absurd h (by omega)
  | k + 1, i, m, hi, hk, hm => by
    unfold head_Top.l0
    by_cases hlt : i < ls.length
    · have hf := flat_at hlt
      rw [if_pos (by omega), if_pos (by omega), if_pos (by omega), rd_L1_nat, w64 _ (by omega) (by omega), w64 _ (by omega) (by omega)]
      have := UTop_l0 l hl ls hn k (i + 1) (m + (ls.getD i []).length) (by omega) (by omega) (by omega)
      rw [show m + (ls.getD i []).length + (ls.drop (i + 1)).flatten.length = m + (ls.drop i).flatten.length by omega] at this
      exact this
    · obtain rfl : i = ls.length := by omega
      rw [List.drop_length] at hm ⊢
      simp only [List.flatten_nil, List.length_nil, Nat.add_zero] at hm ⊢
      unfold bytes_Clone.f
      rw [if_neg (by omega), if_pos (by omega), if_pos (by omega), Int.toNat_natCast, if_pos (by rw [List.length_take]; omega)]
      rfl
theorem UTop_eq (k : Nat) (l : List Int) (n : Int) (hb : Byt l) (hl : l.length ≤ 50000) (hk : l.length + 1 < k) (_ : -1000000000 ≤ n) (_ : n ≤ 1000000000) : head_Top.f k l n = some (utop l n) := by
  have h1 := hend_le l
  have h2 := lines_length_le (l.drop (hend l))
  rw [List.length_drop] at h2
  have h3 := tlines_le l n
  have h4 : (tlines l n).length ≤ (lines (l.drop (hend l))).length := by unfold tlines; rw [List.length_take]; omega
  have h5 : 0 ≤ mn (mx n 0) ((lines (l.drop (hend l))).length : Int) ∧ mn (mx n 0) ((lines (l.drop (hend l))).length : Int) ≤ ((lines (l.drop (hend l))).length : Int) := by
    unfold mn mx
    constructor <;> (repeat' split) <;> omega
  unfold head_Top.f
  rw [end_eq k l hb (by omega) hk, Option.bind_some, if_pos (by omega), if_pos (by omega), Int.toNat_natCast, cut_eq k _ (hb.drop _) (by rw [List.length_drop]; omega) (by rw [List.length_drop]; omega), Option.bind_some, if_pos h5.1, if_pos h5.2, Option.bind_some]
  have := UTop_l0 l hl (tlines l n) (by omega) k 0 (hend l) (by omega) (by omega) (by rw [List.drop_zero]; exact h3)
  rw [List.drop_zero] at this
  exact this
end Go.Proofs.YtlicjigofnbpjaaDoor.Pure
