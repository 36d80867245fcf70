
/- The anchor of the statements about packs; how bytes are compared. -/

import Derived.Test.YtcmfgijdelaelaaPackLaw

import Derived.Test.YtcmfgijdelaelaaPackMd

import Derived.Test.YtcmfgijdelaelaaPackMe

import Derived.Test.YtcmfgijdelaelaaPackQc

namespace Go.Proofs.Ytcmfgijdelaelaa.Pa

set_option linter.unusedVariables false

set_option linter.unusedSimpArgs false

open Go.RowKit Go.Proofs.Ytcmfgijdelaelaa.C

attribute [local go_sem] max2_int min2_int max_two min_two

set_option maxRecDepth 100000 in
/-- Bytes of one's own as a string. -/
theorem Byt.str {w w' : World} {S : Nat → Prop} {A : Option Addr} {n c : Nat} {x : List UInt8} (h : Byt w S (.slice A n c) x) {M : Nat → Prop} (hc : Chg M w w') (hd : ∀ k, S k → ¬ M k) : (convert 25 9 (.slice A n c)).run Try.prog w' = .ok (.string (bstr x)) w' := by
  have h2 := (h.chg hc hd).row
  obtain ⟨A', c', hv, q1, q2, q3, q4⟩ := own_sees h2
  injection hv with e1 e2 e3
  subst e1 e3
  exact str_run Try.underlying25 Try.underlying5 Try.underlying9 e2 q4 q3 (by omega)
theorem Byt.at {w : World} {S : Nat → Prop} {A : Option Addr} {n c : Nat} {x : List UInt8} (h : Byt w S (.slice A n c) x) : Ty.At Ty.u8 w S A n c x := by
  obtain ⟨A', c', hv, q1, q2, q3, q4⟩ := own_sees h.row
  injection hv with e1 e2 e3
  subst e1 e3
  exact Ty.At.of_bytes e2 (by omega) q2 q3 (q4.mono (fun k hk => h.rowS k hk))
def anchorR : Rec := ⟨1, 5, 3, []⟩
theorem anchorB : recB anchorR = [0, 0, 0, 0, 0, 2, 0, 0, 0, 0, 0, 6, 0, 0, 0, 0, 0, 4, 0, 0, 0, 0, 0, 1] := by decide

set_option maxHeartbeats 4000000 in
set_option maxRecDepth 100000 in
theorem anchor_any (w : World) : Calls Try.prog 10 #[] w fun e w' => e = .returned (.bool true) ∧ Chg (fun _ => False) w w' := by
  have H0 := hid (show Ty.At entryK w (fun _ => False) none 0 0 anchorR.log from ⟨rfl, Nat.le_refl _, by simp [maxLen], fun _ => rfl, [], Sees.nil _ _ _, Ty.Row.nil _ _ _⟩)
  go_enter Try.func10, Try.ntmps10
  go_wp2_with fail
  refine (encoderec_any (m := anchorR) H0.out).mono ?_
  rintro e w1 ⟨hc1, h1⟩
  have C1 := hid hc1
  clear hc1
  rcases h1 with ⟨h1, _⟩ | ⟨_, h1, _⟩ | ⟨h1, h2, A', c', rfl, hb⟩
  · exact absurd h1 (by decide)
  · rw [anchorB] at h1
    exact absurd h1 (by decide)
  have HP := hid (parseRec_bytes h1 h2)
  rw [anchorB] at hb HP ⊢
  have HB := hid hb
  clear h1 h2 hb
  go_wp2_with fail
  refine (decoderec_any HB.out.at (by simp)).mono ?_
  rintro e w2 ⟨hc2, h2⟩
  have C2 := hid hc2
  rcases h2 with ⟨h2, _⟩ | ⟨m, A2, n2, c2, h2, rfl, hwf, hlog⟩
  · rw [HP.out] at h2
    cases h2
  rw [HP.out] at h2
  injection h2 with h2
  subst h2
  have hs : ∀ W, Chg (fun _ => False) w2 W → (convert 25 9 (.slice A' 24 c')).run Try.prog W = .ok (.string ⟨#[0, 0, 0, 0, 0, 2, 0, 0, 0, 0, 0, 6, 0, 0, 0, 0, 0, 4, 0, 0, 0, 0, 0, 1]⟩) W := fun W hW => HB.out.str (M := fun _ => False) (hc2.trans hW (fun _ h _ => h)) (fun _ _ h => h)
  have hs2 := hs _ ((Chg.refl (fun _ => False) w2).alloc (.cells #[.int .i64 1, .int .i64 5, .int .i64 3, .slice A2 n2 c2] 24))
  have CF := hid (show Chg (fun _ => False) w w2 from C1.out.trans hc2 (fun _ h _ => h))
  clear hc2 hwf hlog hs
  dsimp only [anchorR]
  go_wp2_with fail
  go_ret
  exact ⟨rfl, CF.out.alloc _⟩
end Go.Proofs.Ytcmfgijdelaelaa.Pa
