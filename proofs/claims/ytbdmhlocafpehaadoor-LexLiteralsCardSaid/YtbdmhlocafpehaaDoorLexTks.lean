/- The lexer's method that takes a line's tokens. -/
import Derived.Test.YtbdmhlocafpehaaDoorLexTok
namespace Go.Proofs.YtbdmhlocafpehaaDoor
open Go.RowKit Go.Proofs.YtbdmhlocafpehaaDoor.P Go.Proofs.YtbdmhlocafpehaaDoorW.PrintWords Go.Proofs.YtbdmhlocafpehaaDoorW.PrintLast Go.Proofs.YtbdmhlocafpehaaDoorW.PrintMore
set_option linter.unusedVariables false
set_option linter.unusedSimpArgs false

theorem qgo_le : ∀ (n : Nat) (l acc s : List Int) (k : Nat), l.length ≤ n → qgo l acc = some (s, k) → k ≤ l.length
  | 0, l, acc, s, k, hl, h => by
    obtain rfl := List.eq_nil_of_length_eq_zero (by omega : l.length = 0)
    rw [qgo_nil] at h; cases h
  | n + 1, l, acc, s, k, hl, h => by
    cases l with
    | nil => rw [qgo_nil] at h; cases h
    | cons c r =>
      rw [qgo_cons] at h
      rw [List.length_cons] at hl ⊢
      split at h
      · split at h
        · obtain ⟨_, rfl⟩ := Prod.mk.inj (Option.some.inj h); omega
        · split at h
          · cases r with
            | nil => cases h
            | cons d r' =>
              simp only at h
              split at h
              · obtain ⟨x, hx, he⟩ := Option.map_eq_some_iff.1 h
                obtain ⟨x1, x2⟩ := x
                rw [List.length_cons] at hl ⊢
                have := qgo_le n r' _ x1 x2 (by omega) hx
                obtain ⟨_, rfl⟩ := Prod.mk.inj he
                omega
              · cases h
          · obtain ⟨x, hx, he⟩ := Option.map_eq_some_iff.1 h
            obtain ⟨x1, x2⟩ := x
            have := qgo_le n r _ x1 x2 (by omega) hx
            obtain ⟨_, rfl⟩ := Prod.mk.inj he
            omega
      · cases h
theorem ago_le : ∀ (l : List Int) (inn : Bool) (k : Nat), ago inn l = some k → k ≤ l.length
  | [], inn, k, h => by
    rw [ago] at h
    split at h
    · cases h
    · obtain rfl := Option.some.inj h; exact Nat.le_refl _
  | c :: r, inn, k, h => by
    rw [ago] at h
    rw [List.length_cons]
    split at h
    · split at h
      · obtain ⟨x, hx, rfl⟩ := Option.map_eq_some_iff.1 h
        have := ago_le r _ x hx
        omega
      · split at h
        · obtain rfl := Option.some.inj h; omega
        · obtain ⟨x, hx, rfl⟩ := Option.map_eq_some_iff.1 h
          have := ago_le r _ x hx
          omega
    · cases h
theorem tk1_err {line : List Int} {n p : Nat} {x : Int} (h : tk1 line n p = .inl x) : x = 3 ∨ x = 5 := by
  unfold tk1 at h
  split at h
  · exact .inr (Sum.inl.inj h).symm
  · unfold tk2 at h
    split at h
    · cases h
    · split at h
      · cases h
      · split at h
        · split at h
          · exact .inl (Sum.inl.inj h).symm
          · cases h
        · split at h
          · exact .inl (Sum.inl.inj h).symm
          · cases h
theorem tk1_le {line : List Int} {n p q : Nat} {t : Tk} (hp : p < line.length) (h : tk1 line n p = .inr (q, t)) : q ≤ line.length := by
  unfold tk1 at h
  split at h
  · cases h
  · unfold tk2 at h
    split at h
    · obtain ⟨rfl, _⟩ := Prod.mk.inj (Sum.inr.inj h); omega
    · split at h
      · obtain ⟨rfl, _⟩ := Prod.mk.inj (Sum.inr.inj h); omega
      · split at h
        · split at h
          · cases h
          · rename_i x hx
            obtain ⟨s, k⟩ := x
            have := qgo_le _ _ _ s k (Nat.le_refl _) hx
            rw [List.length_drop] at this
            obtain ⟨rfl, _⟩ := Prod.mk.inj (Sum.inr.inj h)
            simp only
            omega
        · split at h
          · cases h
          · rename_i k hk
            have := ago_le _ _ k hk
            rw [List.length_drop] at this
            obtain ⟨rfl, _⟩ := Prod.mk.inj (Sum.inr.inj h)
            omega
/-- A line's tokens behind others, from a place on; or the error. -/
def tgo : Nat → List Int → Nat → List Tk → Option (Sum Int (List Tk))
  | 0, _, _, _ => none
  | f + 1, line, p, toks => if p < line.length then (if line.getD p 0 = 32 then tgo f line (p + 1) toks else match tk1 line toks.length p with | .inl e => some (.inl e) | .inr x => tgo f line x.1 (toks ++ [x.2])) else some (.inr toks)
/-- The lexer between two lines. -/
structure LxK (w0 w : World) (b : Nat) (v : Value) (toks : List Tk) : Prop where
  below : Below w0.heap.size w0 w
  bge : w0.heap.size ≤ b
  blk : ∃ l a, w.heap[b]? = some (.cells #[v, l, a] 41 (0, 0))
  row : Kd.R kTk 31 w w0.heap.size (fun k => k ≠ b) v toks
theorem LxK.line {w0 w : World} {b : Nat} {v : Value} {toks : List Tk} (h : LxK w0 w b v toks) {A : Option Addr} {c : Nat} {line : List Int} (hC : Kd.C (Kd.int .u8) w0 A line.length line) (hc : line.length ≤ c) : LxI w0 ((w.setCell ⟨b, 1, none⟩ (.slice A line.length c)).setCell ⟨b, 2, none⟩ (.int .i64 0)) b v A c line 0 toks := by
  obtain ⟨l, a, hb⟩ := h.blk
  exact ⟨below_set (below_set h.below h.bge) h.bge, h.bge, blk_set (blk_set hb 1 _) 2 _, Kd.R_far (Kd.R_far h.row (fun k hk => hk) _) (fun k hk => hk) _, hC, hc⟩
theorem LxI.toK {w0 w : World} {b : Nat} {v : Value} {A : Option Addr} {c : Nat} {line : List Int} {z : Int} {toks : List Tk} (h : LxI w0 w b v A c line z toks) : LxK w0 w b v toks := ⟨h.below, h.bge, ⟨_, _, h.blk⟩, h.row⟩
def KPost (w0 : World) (b : Nat) (r : Sum Int (List Tk)) (e : Ending) (w' : World) : Prop :=
  match r with
  | .inl x => e = .returned (.int .i64 x) ∧ Below w0.heap.size w0 w'
  | .inr toks => e = .returned (.int .i64 0) ∧ ∃ v', LxK w0 w' b v' toks
set_option maxHeartbeats 8000000 in
set_option maxRecDepth 1000000 in
theorem lexer_tokens (k : Nat) (w0 w : World) (b : Nat) (v : Value) (A : Option Addr) (c : Nat) (line : List Int) (toks : List Tk) (R : Sum Int (List Tk)) (hK : LxK w0 w b v toks) (hC : Kd.C (Kd.int .u8) w0 A line.length line) (hc : line.length ≤ c) (hlen0 : line.length ≤ 100000000) (hR : tgo k line 0 toks = some R) :
    Calls Tryd.prog 15 #[.pointer (some ⟨b, 0, none⟩), .slice A line.length c] w fun e w' => KPost w0 b R e w' := by
  have HL := Aside0.mk (hK.line hC hc)
  have HR := Aside0.mk hR
  obtain ⟨l0, a0, hb⟩ := hK.blk
  have hc1 := blk_cell hb 1
  have hc2 := blk_cell hb 2
  have hf1 := blk_frozen hb 1
  have hf2 := blk_frozen hb 2
  clear hK hR hb
  go_enter Tryd.func15, Tryd.ntmps15
  go_wp2
  clear hc1 hc2 hf1 hf2
  go_loopg [5] k (fun g u5 wz => ∃ (z : Int) (v1 : Value) (tk : List Tk), 0 ≤ z ∧ z ≤ line.length ∧ Aside0 (tgo g line z.toNat tk = some R) ∧ Aside0 (LxI w0 wz b v1 A c line z tk))
  case atStart => exact ⟨0, v, toks, by omega, by omega, ⟨HR.out⟩, ⟨HL.out⟩⟩
  case round =>
    obtain ⟨z, v1, tk, hz, hzl, HT, HI⟩ := hrel
    clear HL HR
    have hc1 := HI.out.cell1
    have hc2 := HI.out.cell2
    have hf2 := HI.out.thaw 2
    cases gk with
    | zero => exact absurd HT.out (by rw [tgo]; simp)
    | succ g =>
      by_cases hlt : z < (line.length : Int)
      · have hd : decide (z < (line.length : Int)) = true := decide_eq_true hlt
        obtain ⟨ad, rfl, hadb, hch⟩ := HI.out.char z.toNat (by omega)
        obtain ⟨ch, hche⟩ : ∃ ch, line.getD z.toNat 0 = ch := ⟨_, rfl⟩
        rw [hche] at hch
        clear hadb
        by_cases h32 : ch = 32
        · have HT2 : Aside0 (tgo g line (z.toNat + 1) tk = some R) := ⟨by have := HT.out; rw [tgo, if_pos (by omega), if_pos (by rw [hche]; exact h32)] at this; exact this⟩
          subst h32
          clear hche HT
          go_wp2
          go_roundg g
          case measure => omega
          case rel => exact ⟨z + 1, v1, tk, by omega, by omega, ⟨by rw [show (z + 1).toNat = z.toNat + 1 by omega]; exact HT2.out⟩, ⟨by repeat (first | exact HI.out | apply LxI.setAt)⟩⟩
        · have e32 : (ch == (32 : Int)) = false := beq_eq_false_iff_ne.2 h32
          have HT2 : Aside0 ((match tk1 line tk.length z.toNat with | .inl e => some (.inl e) | .inr x => tgo g line x.1 (tk ++ [x.2])) = some R) := ⟨by have := HT.out; rw [tgo, if_pos (by omega), if_neg (by rw [hche]; exact h32)] at this; exact this⟩
          clear hche HT h32
          cases hres : tk1 line tk.length z.toNat with
          | inl x =>
            have hx := tk1_err hres
            have HT3 := HT2.out
            rw [hres] at HT3
            have HRx := Aside0.mk (Option.some.inj HT3)
            have Hres := Aside0.mk hres
            clear HT3 HT2 hres
            have hx1 : (x != (0 : Int)) = true := bne_iff_ne.2 (by omega)
            go_wp2_with (fail)
            refine (lexer_token w0 _ b _ _ c line z tk HI.out hz (by omega) hlen0).mono ?_
            intro e w' hq
            rw [Hres.out] at hq
            obtain ⟨rfl, hq⟩ := hq
            have HQ := Aside0.mk hq
            clear hq
            go_wp2
            go_ret
            rw [← HRx.out]
            exact ⟨rfl, HQ.out⟩
          | inr x =>
            obtain ⟨q, t⟩ := x
            have hq1 := tk1_le (by omega) hres
            have HT3 := HT2.out
            rw [hres] at HT3
            have HT4 := Aside0.mk HT3
            have Hres := Aside0.mk hres
            clear HT3 HT2 hres
            go_wp2_with (fail)
            refine (lexer_token w0 _ b _ _ c line z tk HI.out hz (by omega) hlen0).mono ?_
            intro e w' hq
            rw [Hres.out] at hq
            obtain ⟨rfl, v2, hq⟩ := hq
            have HQ := Aside0.mk hq
            clear hq hc1 hc2 hf2 hch
            go_wp2
            go_roundg g
            case measure => omega
            case rel => exact ⟨(q : Int), v2, tk ++ [t], by omega, by omega, ⟨by rw [Int.toNat_natCast]; exact HT4.out⟩, ⟨HQ.out⟩⟩
      · have hd : decide (z < (line.length : Int)) = false := decide_eq_false hlt
        have HRx : Aside0 (R = .inr tk) := ⟨by have := HT.out; rw [tgo, if_neg (by omega)] at this; exact (Option.some.inj this).symm⟩
        clear HT
        go_wp2
        go_ret
        rw [HRx.out]
        exact ⟨rfl, v1, HI.out.toK⟩
end Go.Proofs.YtbdmhlocafpehaaDoor
