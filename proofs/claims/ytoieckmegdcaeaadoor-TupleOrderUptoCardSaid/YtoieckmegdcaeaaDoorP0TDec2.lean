-- Packed by a program of this session (pack.py) from texts of this claim.
import Derived.Test.YtoieckmegdcaeaaDoorP0TDec
section
namespace Go.Proofs.YtoieckmegdcaeaaDoor.T
open Go.RowKit Go.Proofs.YtoieckmegdcaeaaDoorW.PrintWords Go.Proofs.YtoieckmegdcaeaaDoorW.PrintLast Go.Proofs.YtoieckmegdcaeaaDoorW.PrintMore
open Go.Proofs.YtoieckmegdcaeaaDoor.G

theorem wb (c : UInt8) : wrap64 (c.toNat : Int) = (c.toNat : Int) := by have := c.toNat_lt; rw [w64] <;> omega
/-- max(c - 24, 24 - c) -/
theorem mx_dist (c : UInt8) (h1 : 16 ≤ c.toNat) (h2 : c.toNat ≤ 32) : mx (wrap64 ((c.toNat : Int) - 24)) (wrap64 (24 - (c.toNat : Int))) = ((if c.toNat < 24 then 24 - c.toNat else c.toNat - 24 : Nat) : Int) := by
  rw [w64 (by omega) (by omega), w64 (by omega) (by omega)]
  unfold mx
  split <;> split <;> omega
theorem intOf_res (c : Nat) (r : List UInt8) (n : Nat) (hn : n = if c < 24 then 24 - c else c - 24) (hr : n ≤ r.length) :
    intOf c r = if (bytesOf (decide (c < 24)) r n).head? = some 0 then none else if (wholeRes (decide (c < 24)) (beVal (bytesOf (decide (c < 24)) r n))).2 = true then
      some (if c < 24 then -(beVal (bytesOf (decide (c < 24)) r n) : Int) else (beVal (bytesOf (decide (c < 24)) r n) : Int), r.drop n) else none := by
  unfold intOf
  simp only [← hn]
  rw [if_neg (by omega)]
  by_cases hc : c < 24
  · simp only [hc, decide_true, if_true, bytesOf, wholeRes]
    split
    · rfl
    · by_cases hm : beVal (flip (r.take n)) ≤ 9223372036854775808
      · rw [if_pos hm, if_pos (decide_eq_true (by omega))]
      · rw [if_neg hm, if_neg (by rw [decide_eq_true_eq]; omega)]
  · simp only [hc, decide_false, if_false, bytesOf, wholeRes, Bool.false_eq_true]
    split
    · rfl
    · by_cases hm : beVal (r.take n) ≤ 9223372036854775807
      · rw [if_pos hm, if_pos (decide_eq_true (by omega))]
      · rw [if_neg hm, if_neg (by rw [decide_eq_true_eq]; omega)]
theorem wholeRes_val (below : Bool) (m : Nat) (h : (wholeRes below m).2 = true) : (wholeRes below m).1 = if below then -(m : Int) else (m : Int) := by
  cases below
  · simp only [wholeRes, Bool.false_eq_true, if_false, decide_eq_true_eq] at h ⊢
    rw [w64] <;> omega
  · simp only [wholeRes, if_true, decide_eq_true_eq] at h ⊢
    by_cases hm : (m : Int) = 9223372036854775808
    · rw [hm]; unfold wrap64; omega
    · rw [w64 (n := (m : Int)) (by omega) (by omega), w64 (by omega) (by omega)]

/-- What first answers. -/
def FirstSays (o : Option (V × List UInt8)) (res : Int × Bool × Int × ByteArray × ByteArray × Bool) : Prop :=
  match o with
  | some p => res = (p.1.kind, p.1.flag, p.1.int, B p.1.text, B p.2, true)
  | none => res.2.2.2.2.2 = false
theorem nnat (n : Nat) : ((n : Int)).toNat = n := rfl
theorem first_ev (b : List UInt8) (hb : b.length ≤ 4194304) (hne : b ≠ []) : ∃ res, Ev (fun k => tuple_first.f k (B b)) res ∧ FirstSays (first b) res := by
  cases b with
  | nil => exact absurd rfl hne
  | cons c r =>
    have hlen : r.length ≤ 4194304 := by rw [List.length_cons] at hb; omega
    have hbt : bt (B (c :: r)) 0 = (c.toNat : Int) := bt_at_B (l := c :: r) (i := 0) rfl
    have htail : (B (c :: r)).extract 1 (B (c :: r)).size = B r := B_tail (c :: r) 1
    have hsz : ((B (c :: r)).size : Int) = (r.length : Int) + 1 := by rw [B_size, List.length_cons]; rfl
    have start : ∀ k, tuple_first.f k (B (c :: r)) = if (c.toNat : Int) = 1 then some (0, false, 0, (⟨#[]⟩ : ByteArray), B r, true) else (if (c.toNat : Int) = 2 then (tuple_first.j0 k (c.toNat : Int) (B r) true) else (tuple_first.j0 k (c.toNat : Int) (B r) ((c.toNat : Int) == 3))) := by
      intro k
      unfold tuple_first.f
      rw [if_pos (by rw [hsz]; omega), if_pos (by rw [hsz]; omega), hbt, wb, htail]
    by_cases h1 : c = 1
    · have n1 : (c.toNat : Int) = 1 := by rw [h1]; rfl
      refine ⟨(0, false, 0, (⟨#[]⟩ : ByteArray), B r, true), Ev.congr (fun k => by rw [start, if_pos n1]) (Ev.now _), ?_⟩
      rw [show first (c :: r) = some (⟨0, false, 0, []⟩, r) from by rw [h1]; rfl]
      rfl
    · have n1 : ¬ (c.toNat : Int) = 1 := fun he => h1 (UInt8.toNat_inj.1 (show c.toNat = 1 by omega))
      by_cases h2 : c = 2 ∨ c = 3
      · have hbool : ∀ k, tuple_first.f (k + 1) (B (c :: r)) = some (1, (c.toNat : Int) == 3, 0, (⟨#[]⟩ : ByteArray), B r, true) := by
          intro k
          rw [start, if_neg n1]
          rcases h2 with h2 | h2
          · have n2 : (c.toNat : Int) = 2 := by rw [h2]; rfl
            rw [if_pos n2]; rfl
          · have n3 : (c.toNat : Int) = 3 := by rw [h2]; rfl
            rw [if_neg (by omega), n3]; rfl
        refine ⟨_, Ev.step (f := fun _ => some (1, (c.toNat : Int) == 3, 0, (⟨#[]⟩ : ByteArray), B r, true)) hbool (Ev.now _), ?_⟩
        rcases h2 with rfl | rfl <;> rfl
      · have n2 : ¬ (c.toNat : Int) = 2 := fun he => h2 (.inl (UInt8.toNat_inj.1 (show c.toNat = 2 by omega)))
        have n3 : ¬ (c.toNat : Int) = 3 := fun he => h2 (.inr (UInt8.toNat_inj.1 (show c.toNat = 3 by omega)))
        have n3b : ((c.toNat : Int) == 3) = false := beq_eq_false_iff_ne.2 n3
        by_cases h4 : c = 48
        · have c48 : (c.toNat : Int) = 48 := by rw [h4]; rfl
          have ht := text_ev r hlen r.length 0 [] (by omega) (by omega) (by simp only [List.length_nil]; omega)
          rw [List.drop_zero] at ht
          have hf : first (c :: r) = (untext r).map (fun p => (⟨3, false, 0, p.1⟩, p.2)) := by rw [h4]; rfl
          rw [hf]
          have go : ∀ k, tuple_first.f (k + 1) (B (c :: r)) = (tuple_text.l0 k (B r) (nums8 []) ((0 : Nat) : Int)).bind fun bt161 => (if 0 ≤ bt161.2.1 then (if bt161.2.1 ≤ ((B r).size : Int) then (some (3, false, 0, bt161.1, (B r).extract (bt161.2.1 : Int).toNat (B r).size, bt161.2.2)) else (none)) else (none)) := by
            intro k
            rw [start, if_neg n1, if_neg n2, n3b, c48]
            rfl
          cases hu : untext r with
          | none =>
            rw [hu] at ht
            refine ⟨(3, false, 0, B [], (B r).extract 0 (B r).size, false), Ev.step go (Ev.bind ht ?_), rfl⟩
            exact Ev.congr (fun k => (if_pos (Int.le_refl 0)).trans ((if_pos (show (0 : Int) ≤ ((B r).size : Int) by omega)).trans rfl)) (Ev.now _)
          | some p =>
            rw [hu] at ht
            have hp := untext_inv r p.1 p.2 hu
            have hl : r.length = (esc p.1).length + 1 + p.2.length := by
              have := congrArg List.length hp.1
              rw [List.length_append, List.length_cons] at this
              omega
            refine ⟨(3, false, 0, B p.1, B p.2, true), Ev.step go (Ev.bind ht ?_), rfl⟩
            refine Ev.congr (fun k => ?_) (Ev.now _)
            refine (if_pos (show (0 : Int) ≤ (r.length : Int) - (p.2.length : Int) by omega)).trans ((if_pos (show (r.length : Int) - (p.2.length : Int) ≤ ((B r).size : Int) by rw [B_size]; omega)).trans ?_)
            show some (3, false, 0, B ([] ++ p.1), (B r).extract ((r.length : Int) - (p.2.length : Int)).toNat (B r).size, true) = _
            rw [List.nil_append, show ((r.length : Int) - (p.2.length : Int)).toNat = (esc p.1 ++ [0]).length from by rw [List.length_append, List.length_singleton]; omega, B_tail]
            have : r.drop (esc p.1 ++ [0]).length = p.2 := by
              have e : r = (esc p.1 ++ [0]) ++ p.2 := by rw [List.append_assoc]; exact hp.1
              rw [e, List.drop_left]
            rw [this]
        · have n4 : ¬ (c.toNat : Int) = 48 := fun he => h4 (UInt8.toNat_inj.1 (show c.toNat = 48 by omega))
          have hf : first (c :: r) = if c.toNat < 16 ∨ 32 < c.toNat then none else (intOf c.toNat r).map (fun p => (⟨2, false, p.1, []⟩, p.2)) := by
            simp only [first, h1, h2, h4, if_false]
          have go : ∀ k, tuple_first.f (k + 2) (B (c :: r)) = (if c.toNat < 16 ∨ 32 < c.toNat then some (0, false, 0, (⟨#[]⟩ : ByteArray), (⟨#[]⟩ : ByteArray), false) else (if ((B r).size : Int) < (mx (wrap64 ((c.toNat : Int) - 24)) (wrap64 (24 - (c.toNat : Int)))) then (some (0, false, 0, (⟨#[]⟩ : ByteArray), (⟨#[]⟩ : ByteArray), false)) else ((tuple_whole.f k (B r) (mx (wrap64 ((c.toNat : Int) - 24)) (wrap64 (24 - (c.toNat : Int)))) (decide ((c.toNat : Int) < 24))).bind fun bt164 => (if 0 ≤ (mx (wrap64 ((c.toNat : Int) - 24)) (wrap64 (24 - (c.toNat : Int)))) then (if (mx (wrap64 ((c.toNat : Int) - 24)) (wrap64 (24 - (c.toNat : Int)))) ≤ ((B r).size : Int) then (some (2, false, bt164.1, (⟨#[]⟩ : ByteArray), (B r).extract ((mx (wrap64 ((c.toNat : Int) - 24)) (wrap64 (24 - (c.toNat : Int)))) : Int).toNat (B r).size, bt164.2)) else (none)) else (none))))) := by
            intro k
            rw [start, if_neg n1, if_neg n2, n3b]
            simp only [tuple_first.j0]
            rw [if_neg (by decide), if_neg n4]
            by_cases h16 : c.toNat < 16
            · rw [if_pos (by omega), if_pos (.inl h16)]
              simp only [tuple_first.j1]
              rw [if_pos trivial]
            · rw [if_neg (by omega)]
              simp only [tuple_first.j1]
              by_cases h32 : 32 < c.toNat
              · rw [if_pos (decide_eq_true (show (c.toNat : Int) > 32 by omega)), if_pos (.inr h32)]
              · rw [if_neg (show ¬ decide ((c.toNat : Int) > 32) = true by rw [decide_eq_true_eq]; omega), if_neg (show ¬ (c.toNat < 16 ∨ 32 < c.toNat) by omega)]
          by_cases ho : c.toNat < 16 ∨ 32 < c.toNat
          · rw [hf, if_pos ho]
            refine ⟨(0, false, 0, (⟨#[]⟩ : ByteArray), (⟨#[]⟩ : ByteArray), false), Ev.step (f := fun k => tuple_first.f (k + 1) (B (c :: r))) (fun k => rfl) (Ev.step (fun k => by rw [go, if_pos ho]) (Ev.now _)), rfl⟩
          · rw [hf, if_neg ho]
            generalize hn : (if c.toNat < 24 then 24 - c.toNat else c.toNat - 24) = n
            have hmx := mx_dist c (by omega) (by omega)
            rw [hn] at hmx
            have hdec : decide ((c.toNat : Int) < 24) = decide (c.toNat < 24) := decide_eq_decide.2 (by omega)
            have hn8 : n ≤ 8 := by rw [← hn]; split <;> omega
            by_cases hl : r.length < n
            · have hnone : intOf c.toNat r = none := by unfold intOf; simp only [hn]; rw [if_pos hl]
              rw [hnone]
              refine ⟨(0, false, 0, (⟨#[]⟩ : ByteArray), (⟨#[]⟩ : ByteArray), false), Ev.step (f := fun k => tuple_first.f (k + 1) (B (c :: r))) (fun k => rfl) (Ev.step (fun k => by rw [go, if_neg ho, hmx, if_pos (by rw [B_size]; omega)]) (Ev.now _)), rfl⟩
            · have hw := whole_ev (decide (c.toNat < 24)) r n hn8 (by omega) n 0 (by omega) (by omega) (.inl rfl)
              rw [intOf_res c.toNat r n hn.symm (by omega)]
              have hgo : ∀ res : Int × Bool, Ev (fun k => tuple_whole.l0 k (B r) (n : Int) (decide (c.toNat < 24)) (beVal ((bytesOf (decide (c.toNat < 24)) r n).take 0) : Int) ((0 : Nat) : Int)) res →
                  Ev (fun k => tuple_first.f k (B (c :: r))) (2, false, res.1, (⟨#[]⟩ : ByteArray), B (r.drop n), res.2) := by
                intro res hres
                refine Ev.step (f := fun k => tuple_first.f (k + 1) (B (c :: r))) (fun k => rfl) (Ev.step (fun k => by rw [go, if_neg ho, hmx, if_neg (by rw [B_size]; omega), hdec]) (Ev.bind (g := fun k => tuple_whole.f k (B r) (n : Int) (decide (c.toNat < 24))) hres ?_))
                refine Ev.congr (fun k => ?_) (Ev.now _)
                rw [if_pos (by omega), if_pos (by rw [B_size]; omega), nnat, B_tail]
              refine ⟨_, hgo _ hw, ?_⟩
              by_cases hh : (bytesOf (decide (c.toNat < 24)) r n).head? = some 0
              · rw [if_pos hh, if_pos hh]; rfl
              · rw [if_neg hh, if_neg hh]
                by_cases hok : (wholeRes (decide (c.toNat < 24)) (beVal (bytesOf (decide (c.toNat < 24)) r n))).2 = true
                · rw [if_pos hok]
                  have hv := wholeRes_val _ _ hok
                  have hv2 : (wholeRes (decide (c.toNat < 24)) (beVal (bytesOf (decide (c.toNat < 24)) r n))).1 = if c.toNat < 24 then -(beVal (bytesOf (decide (c.toNat < 24)) r n) : Int) else (beVal (bytesOf (decide (c.toNat < 24)) r n) : Int) := by
                    rw [hv]
                    by_cases h24 : c.toNat < 24
                    · rw [if_pos h24, if_pos (decide_eq_true h24)]
                    · rw [if_neg h24, if_neg (by rw [decide_eq_true_eq]; exact h24)]
                  show (_, _, _, _, _, _) = (_, _, _, _, _, _)
                  rw [hv2, hok]
                  rfl
                · rw [if_neg hok]
                  exact Bool.eq_false_iff.2 hok

/-- Decode. -/
theorem decode_ev : ∀ (n : Nat) (b : List UInt8) (acc : List V), b.length < n → acc.length + b.length ≤ 4194304 →
    Ev (fun k => tuple_Decode.l0 k (B b) (acc.map ofV)) (match dec n b with | some ts => ((acc ++ ts).map ofV, 0) | none => ([], 250)) := by
  intro n
  induction n with
  | zero => intro b acc h; exact absurd h (Nat.not_lt_zero _)
  | succ n ih =>
    intro b acc hn hb
    by_cases hb0 : b = []
    · subst hb0
      rw [show dec (n + 1) [] = some [] from rfl]
      refine Ev.step (f := fun _ => some (acc.map ofV, 0)) (fun k => ?_) ?_
      · simp only [tuple_Decode.l0]
        rw [if_pos (by rw [B_toList])]
      · show Ev _ ((acc ++ []).map ofV, (0 : Int))
        rw [List.append_nil]; exact Ev.now _
    · obtain ⟨res, hres, hsays⟩ := first_ev b (by omega) hb0
      have hstep : ∀ k, tuple_Decode.l0 (k + 1) (B b) (acc.map ofV) = (tuple_first.f k (B b)).bind fun bt166 => (if bt166.2.2.2.2.2 = true then (if (acc.map ofV).length < 3518437208883 then (tuple_Decode.l0 k bt166.2.2.2.2.1 (acc.map ofV ++ [(⟨bt166.1, bt166.2.1, bt166.2.2.1, bt166.2.2.2.1⟩ : S36)])) else (none)) else (some (([] : List (S36)), 250))) := by
        intro k
        simp only [tuple_Decode.l0]
        rw [if_neg (by rw [B_toList]; exact hb0)]
      cases hf : first b with
      | none =>
        rw [hf] at hsays
        have hd : dec (n + 1) b = none := by rw [dec, if_neg hb0, hf]
        rw [hd]
        refine Ev.step hstep (Ev.bind hres ?_)
        refine Ev.congr (fun k => ?_) (Ev.now _)
        rw [if_neg (by rw [show res.2.2.2.2.2 = false from hsays]; decide)]
      | some p =>
        rw [hf] at hsays
        have hi := first_inv b p.1 p.2 hf
        have hlt : p.2.length < b.length := by
          have h1 := congrArg List.length hi.1
          rw [List.length_append] at h1
          have h2 : 1 ≤ (code p.1).length := by
            cases hcode : code p.1 with
            | nil => exact absurd hcode (code_ne _)
            | cons x y => rw [List.length_cons]; omega
          omega
        have hd : dec (n + 1) b = (dec n p.2).map (p.1 :: ·) := by rw [dec, if_neg hb0, hf]
        have ih' := ih p.2 (acc ++ [p.1]) (by omega) (by rw [List.length_append, List.length_singleton]; omega)
        have e : (match dec (n + 1) b with | some ts => ((acc ++ ts).map ofV, (0 : Int)) | none => ([], 250)) = (match dec n p.2 with | some ts => ((acc ++ [p.1] ++ ts).map ofV, 0) | none => ([], 250)) := by
          rw [hd]
          cases dec n p.2 with
          | none => rfl
          | some ts => show ((acc ++ p.1 :: ts).map ofV, (0 : Int)) = ((acc ++ [p.1] ++ ts).map ofV, 0); rw [List.append_assoc]; rfl
        rw [e]
        refine Ev.step hstep (Ev.bind hres ?_)
        refine Ev.congr (fun k => ?_) ih'
        have hr : res = (p.1.kind, p.1.flag, p.1.int, B p.1.text, B p.2, true) := hsays
        rw [hr]
        simp only
        rw [if_pos trivial, if_pos (by rw [List.length_map]; omega), List.map_append]
        rfl
end Go.Proofs.YtoieckmegdcaeaaDoor.T
end
