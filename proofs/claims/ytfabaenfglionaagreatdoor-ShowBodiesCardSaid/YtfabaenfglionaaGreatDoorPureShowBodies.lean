/- ShowBodies, the plain part: what it computes is true of any message and way. -/
import Derived.Test.YtfabaenfglionaaGreatDoorBodB
import Derived.Test.YtfabaenfglionaaGreatDoorPx105
namespace Go.Proofs.YtfabaenfglionaaGreatDoor.Pure
open Go.RowKit Go.Proofs.YtfabaenfglionaaGreatDoor Go.Proofs.YtfabaenfglionaaGreatDoor.P Go.Proofs.YtfabaenfglionaaGreatDoor.Spec Go.Proofs.YtfabaenfglionaaGreatDoorW.PrintWords Go.Proofs.YtfabaenfglionaaGreatDoorW.PrintLast Go.Proofs.YtfabaenfglionaaGreatDoorW.PrintMore

theorem Bodies_j0 {u d : Int} {m : List Int} (f : Int) (hM : Msg u d m) (path : List Int) (hok : Ok (⟨5, path⟩ : S40)) (k : Nat) (hk : 20000 ≤ k) : letterboxlaw19_ShowBodies.j0 (k + 1) path false u f d m = some true := by
  have hml := hM.l
  have okn : Ok (⟨5, []⟩ : S40) := ⟨Nat.zero_le _, fun n h => by cases h⟩
  obtain ⟨J0, t0, hJ0, h0, hs0, hl0⟩ := Body1 f hM [] okn k (by omega)
  obtain ⟨J1, t1, hJ1, h1, hs1, hl1⟩ := Body1 f hM path hok k (by omega)
  obtain ⟨hL, hLs⟩ := LT_ok m (by omega)
  have hst : ST (sec m []) = LT m := by
    rw [sec_nil]
    rfl
  rw [hJ0 rfl, hst] at hl0
  have eq0 : t0.toList = (((⟨#[42, 32, 55, 32, 70, 69, 84, 67, 72, 32, 40, 66, 79, 68, 89, 91, 93, 32]⟩ : ByteArray) ++ LT m) ++ (⟨#[41, 13, 10]⟩ : ByteArray)).toList := by
    rw [Lib.toList_data, Lib.toList_data, hl0]
    simp only [toL, List.append_assoc]
    rfl
  have sl := sec_le m path hM.b (by omega)
  rw [letterboxlaw19_ShowBodies.j0, if_neg Bool.false_ne_true, h0, Option.bind_some, hL, Option.bind_some, if_pos (by omega), if_pos (by omega), if_pos eq0, RSection_eq k m path hM.b (by omega) (by omega), Option.bind_some, h1, Option.bind_some]
  generalize hq : sec m path = q at sl hl1
  unfold ST at hl1
  by_cases hq2 : q.2 = true
  · obtain ⟨hL1, hLs1⟩ := LT_ok q.1 (by omega)
    rw [if_pos hq2] at hl1
    have ht := tail_eq t1 (LT q.1 ++ (⟨#[41, 13, 10]⟩ : ByteArray)) ([42, 32, 55, 32, 70, 69, 84, 67, 72, 32, 40] ++ (((⟨#[66, 79, 68, 89, 91]⟩ : ByteArray) ++ J1) ++ (⟨#[93, 32]⟩ : ByteArray)).data.toList) (by
      rw [hl1]
      simp only [toL, List.append_assoc]) (by omega)
    have hw := w64 ((t1.size : Int) - ((LT q.1 ++ (⟨#[41, 13, 10]⟩ : ByteArray)).size : Int)) (by omega) (by omega)
    rw [if_pos hq2, hL1, Option.bind_some, if_pos (by omega), if_pos (by omega), if_pos (by omega), if_pos (by omega), if_pos ht.2, known_at k (by omega)]
    rfl
  · rw [if_neg hq2] at hl1
    have ht := tail_eq t1 (⟨#[78, 73, 76, 41, 13, 10]⟩ : ByteArray) ([42, 32, 55, 32, 70, 69, 84, 67, 72, 32, 40] ++ (((⟨#[66, 79, 68, 89, 91]⟩ : ByteArray) ++ J1) ++ (⟨#[93, 32]⟩ : ByteArray)).data.toList) (by
      rw [hl1]
      simp only [toL, List.append_assoc]
      rfl) (by omega)
    have e6 : (⟨#[78, 73, 76, 41, 13, 10]⟩ : ByteArray).size = 6 := rfl
    have el : (⟨#[78, 73, 76, 41, 13, 10]⟩ : ByteArray).toList = ([78, 73, 76, 41, 13, 10] : List UInt8) := by rw [Lib.toList_data]
    rw [e6, el] at ht
    have ht2 : (t1.extract (wrap64 ((t1.size : Int) - 6)).toNat t1.size).toList = ([78, 73, 76, 41, 13, 10] : List UInt8) := ht.2
    have hw := w64 ((t1.size : Int) - 6) (by omega) (by omega)
    rw [if_neg hq2, if_pos (by omega), if_pos (by omega), if_pos (by omega), if_pos ht2, known_at k (by omega)]
    rfl
theorem ShowBodies (u f d : Int) (m path : List Int) (hm : m.length ≤ 140737488351232 ∧ (∀ n ∈ m, (Lit.int .u8 n).wf = true) ∧ (Lit.int .i64 u).wf = true ∧ (Lit.int .i64 d).wf = true) (hp : ∀ n ∈ path, (Lit.int .i64 n).wf = true) :
    ∃ k, letterboxlaw19_ShowBodies.f k u f d m path = some true := by
  refine ⟨30001, ?_⟩
  unfold letterboxlaw19_ShowBodies.f
  by_cases h8 : (path.length : Int) > 8
  · rw [if_pos h8, letterboxlaw19_ShowBodies.j0, if_pos rfl]
  · rw [if_neg h8]
    have hr : rnd ([⟨0, path⟩] : List S40) ≤ 30001 := by
      unfold rnd rnd
      show path.length + 2 + 1 ≤ 30001
      omega
    have hs : sumI ([⟨0, path⟩] : List S40) = 1 + (path.length : Int) := by
      unfold sumI sumI
      show 1 + (path.length : Int) + 0 = _
      omega
    obtain ⟨b, hb, hf⟩ := big_l0 ([⟨0, path⟩] : List S40) (by simp) (fun x hx => by obtain rfl := List.mem_singleton.1 hx; show path.length ≤ _; omega) 1 u f d m 1 30001 0 (m.length : Int) (by simp) (Nat.zero_le _) (by rw [List.drop_zero]; exact hr) (fun _ => by rw [List.drop_zero, hs]; have := hm.1; omega)
    rw [List.drop_zero, hs] at hf
    have hb' : letterboxlaw19_big.f 30001 [⟨0, path⟩] u f d m 1 = some b := hb
    rw [hb', Option.bind_some]
    cases b with
    | true => rw [letterboxlaw19_ShowBodies.j0, if_pos rfl]
    | false =>
      obtain ⟨q1, q2, q3, q4, q5, q6⟩ := hf rfl
      have hM : Msg u d m := ⟨⟨q4, i64_le hm.2.2.1⟩, ⟨q5, i64_le hm.2.2.2⟩, Byt.of hm.2.1, by omega⟩
      exact Bodies_j0 f hM path ⟨by show path.length ≤ 1500; omega, fun n hn => ⟨q1 _ List.mem_cons_self n hn, i64_le (hp n hn)⟩⟩ 30000 (by decide)
end Go.Proofs.YtfabaenfglionaaGreatDoor.Pure
