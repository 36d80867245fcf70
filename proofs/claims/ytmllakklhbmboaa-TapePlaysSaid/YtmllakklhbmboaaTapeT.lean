/- The contracts of the law's own twin of the tape. -/
import Derived.Test.YtmllakklhbmboaaTapeP
namespace Go.Proofs.Ytmllakklhbmboaa.T
set_option linter.unusedVariables false
set_option linter.unusedSimpArgs false
open Go.RowKit Go.Proofs.Ytmllakklhbmboaa.C
attribute [local go_sem] max2_int min2_int max_two min_two

def wcells (vs vl : Value) (t : TW) : Array Value := #[vs, vl, .int .i64 t.room, .int .i64 t.left, .bool t.armed, .bool t.down]
structure TwAt (w : World) (S : Nat → Prop) (g : Nat) (vs vl : Value) (t : TW) : Prop where
  inS : S g
  blk : w.heap[g]? = some (.cells (wcells vs vl t) 53 (0, 0))
  safe : w.ownsRow 0 5 1 vs t.safe.length (u8s t.safe)
  loose : w.ownsRow 0 5 1 vl t.loose.length (u8s t.loose)
  safeS : ∀ k, vs.ownBlock = some k → S k
  looseS : ∀ k, vl.ownBlock = some k → S k
  apart : ∀ k, vs.ownBlock = some k → vl.ownBlock ≠ some k
theorem TwAt.cells {w : World} {S : Nat → Prop} {g : Nat} {vs vl : Value} {t : TW} (h : TwAt w S g vs vl t) :
    w.cell? ⟨g, 0, none⟩ = some vs ∧ w.cell? ⟨g, 1, none⟩ = some vl ∧ w.cell? ⟨g, 2, none⟩ = some (.int .i64 t.room) ∧ w.cell? ⟨g, 3, none⟩ = some (.int .i64 t.left) ∧ w.cell? ⟨g, 4, none⟩ = some (.bool t.armed) ∧ w.cell? ⟨g, 5, none⟩ = some (.bool t.down) := by
  refine ⟨?_, ?_, ?_, ?_, ?_, ?_⟩ <;> (rw [cellAt h.blk]; rfl)
theorem TwAt.free {w : World} {S : Nat → Prop} {g : Nat} {vs vl : Value} {t : TW} (h : TwAt w S g vs vl t) (i : Nat) : w.frozen? ⟨g, i, none⟩ = false := freeAt h.blk i
theorem TwAt.neS {w : World} {S : Nat → Prop} {g : Nat} {vs vl : Value} {t : TW} (h : TwAt w S g vs vl t) : vs.ownBlock ≠ some g := own_ne h.safe h.blk (by decide)
theorem TwAt.neL {w : World} {S : Nat → Prop} {g : Nat} {vs vl : Value} {t : TW} (h : TwAt w S g vs vl t) : vl.ownBlock ≠ some g := own_ne h.loose h.blk (by decide)
theorem TwAt.chg {w w' : World} {S M : Nat → Prop} {g : Nat} {vs vl : Value} {t : TW} (h : TwAt w S g vs vl t) (hc : Chg M w w') (hd : ∀ k, S k → ¬ M k) : TwAt w' S g vs vl t :=
  ⟨h.inS, hc.blk h.blk (hd _ h.inS), hc.own h.safe (fun k hk => hd _ (h.safeS k hk)), hc.own h.loose (fun k hk => hd _ (h.looseS k hk)), h.safeS, h.looseS, h.apart⟩
theorem TwAt.mono {w : World} {S S' : Nat → Prop} {g : Nat} {vs vl : Value} {t : TW} (h : TwAt w S g vs vl t) (hS : ∀ k, S k → S' k) : TwAt w S' g vs vl t :=
  ⟨hS _ h.inS, h.blk, h.safe, h.loose, fun k hk => hS _ (h.safeS k hk), fun k hk => hS _ (h.looseS k hk), h.apart⟩
/-- The block alone is written. -/
theorem TwAt.wrote {w w' : World} {S : Nat → Prop} {g : Nat} {vs vl : Value} {t t' : TW} (h : TwAt w S g vs vl t) (hc : Chg (fun k => k = g) w w') (hb : w'.heap[g]? = some (.cells (wcells vs vl t') 53 (0, 0))) (hs : t'.safe = t.safe) (hl : t'.loose = t.loose) : TwAt w' S g vs vl t' :=
  ⟨h.inS, hb, by rw [hs]; exact hc.own h.safe (fun k hk => by rintro rfl; exact h.neS hk), by rw [hl]; exact hc.own h.loose (fun k hk => by rintro rfl; exact h.neL hk), h.safeS, h.looseS, h.apart⟩

set_option maxHeartbeats 1000000 in
theorem falls_any (S : Nat → Prop) (g : Nat) (vs vl : Value) (t : TW) (w : World) (h : TwAt w S g vs vl t) (hp : t.armed = true → 0 ≤ t.left) (hm : t.left ≤ 9223372036854775807) :
    Calls Try.prog 43 #[.pointer (some ⟨g, 0, none⟩)] w fun e w' => e = .returned (.bool t.falls.2) ∧ TwAt w' S g vs vl t.falls.1 ∧ Chg (fun k => k = g) w w' := by
  have H := hid h
  obtain ⟨_, _, _, c3, c4, c5⟩ := h.cells
  have f3 := h.free 3
  have f4 := h.free 4
  have f5 := h.free 5
  clear h
  obtain ⟨ts, tl, tr, tlf, ta, td⟩ := t
  simp only at c3 c4 c5 hp hm
  cases ta with
  | false =>
    go_enter Try.func43, Try.ntmps43
    go_wp2
    go_ret
    exact ⟨rfl, H.out, Chg.refl _ _⟩
  | true =>
    have hp0 : 0 ≤ tlf := hp rfl
    by_cases h0 : tlf = 0
    · subst h0
      go_enter Try.func43, Try.ntmps43
      go_wp2
      go_ret
      have hc : Chg (fun k => k = g) w ((w.setCell ⟨g, 5, none⟩ (.bool true)).setCell ⟨g, 4, none⟩ (.bool false)) := ((Chg.refl (fun k => k = g) w).set (fun _ => rfl) _).set (fun _ => rfl) _
      exact ⟨rfl, H.out.wrote hc (blk_set (blk_set H.out.blk 5 _) 4 _) rfl rfl, hc⟩
    · have e : (TW.falls ⟨ts, tl, tr, tlf, true, td⟩) = (⟨ts, tl, tr, tlf - 1, true, td⟩, false) := by simp [TW.falls, h0]
      have E := hid e
      clear e hp
      go_enter Try.func43, Try.ntmps43
      go_wp2
      go_ret
      rw [E.out]
      have hc : Chg (fun k => k = g) w (w.setCell ⟨g, 3, none⟩ (.int .i64 (tlf - 1))) := (Chg.refl (fun k => k = g) w).set (fun _ => rfl) _
      exact ⟨rfl, H.out.wrote hc (blk_set H.out.blk 3 _) rfl rfl, hc⟩

end Go.Proofs.Ytmllakklhbmboaa.T
