/- The walk of the law TapeOwn. -/
import Derived.Test.YtmllakklhbmboaaTapeA
import Derived.Test.YtmllakklhbmboaaTy
namespace Go.Proofs.Ytmllakklhbmboaa.T
set_option linter.unusedVariables false
set_option linter.unusedSimpArgs false
open Go.RowKit Go.Proofs.Ytmllakklhbmboaa.C
attribute [local go_sem] max2_int min2_int max_two min_two

theorem own_out (w : World) (A : Option Addr) (n c : Nat) (b : List UInt8) (h : 300 < n) :
    Calls Try.prog 4 #[.slice A n c] w fun e w' => e = .returned (.bool true) ∧ Below w.heap.size w w' := by
  go_enter Try.func4, Try.ntmps4
  go_wp2_with fail
  refine (anchor_any w).mono ?_
  rintro e w1 ⟨rfl, hb1⟩
  go_wp2_with fail
  go_ret
  exact ⟨rfl, hb1⟩

set_option maxHeartbeats 4000000 in
set_option maxRecDepth 100000 in
theorem own_in (w : World) (A : Option Addr) (n c : Nat) (b : List UInt8) (h : n ≤ 300) (hb : Ty.At Ty.u8 w (fun k => k < w.heap.size) A n c b) :
    Calls Try.prog 4 #[.slice A n c] w fun e w' => e = .returned (.bool true) ∧ Below w.heap.size w w' := by
  have HB := hid hb.bytes
  obtain ⟨hn, hc, hcm, hA, _⟩ := hb
  have HN := hid hn
  have HC := hid hc
  have HA := hid hA
  have h' : ¬ (300 : Int) < (n : Int) := by omega
  have EA := hid (append_calm (b := []) (l := b) (s := 0) (r := 600) (by simp; omega))
  clear hn hc hcm hA
  go_enter Try.func4, Try.ntmps4
  go_wp2_with fail
  refine (anchor_any w).mono ?_
  rintro e w1 ⟨rfl, hb1⟩
  have HB1 := hid hb1
  clear hb1
  go_wp2_with fail
  refine (lv_new w w1 (fun _ => False) 600 HB1.out (fun _ h => h.elim) (by omega) (by omega)).mono ?_
  rintro e w2 ⟨rfl, h2, _⟩
  have H2 := hid h2
  clear h2
  go_wp2_with (first | (at_builtin; refine app_list _ rfl (.tmp 14) (.tmp 15) 22 5 (.int .u8 0) 1 1 rfl Try.underlying22 info5 rfl (by decide) (by decide) (.slice (some ⟨w2.heap.size, 0, none⟩) 0 0) 0 [] rfl (World.ownsRow_lit (base := 0) (e := 5) (size := 1) w2 #[] 0 (Nat.zero_le _) (by simp [maxLen]) rfl) A n c (u8s b) (fun k => k < w.heap.size) rfl HA.out HC.out (by rw [u8s_length, HN.out]; omega) ((HB.out.chg (Chg.of_below H2.out.below) (fun k hk h => by omega)).chg ((Chg.refl (fun _ => False) w2).alloc _) (fun _ _ h => h)) (u8s_one b) (by omega) ?_; intro A' c' w3 h1 h2 h3; rw [Nat.zero_add] at h1 h3; have G1 := hid h1; have G2 := hid h2; have G3 := hid h3; clear h1 h2 h3) | fail)
  have HX := hid (H2.out.since (((Chg.refl (fun k => False ∧ w.heap.size ≤ k) w2).alloc (.cells #[] 5)).trans G2.out (fun i hi hlt => by simp [Value.ownBlock] at hi; omega)))
  have hown := own_at G1.out
  have hX : ∀ k, (Value.slice A' n c').ownBlock = some k → w2.heap.size ≤ k ∧ k < w3.heap.size := fun k hk => ⟨by rcases G3.out k hk with h | h; (simp [Value.ownBlock] at h; omega); (simp at h; omega), own_lt G1.out k hk⟩
  refine (lv_append (l := b) HX.out hown.2.2.1 HN.out hown.1 hown.2.2.2 (fun k hk => .inr (.inr (hX k hk)))).mono ?_
  rintro e w4 ⟨rfl, h4, h4c⟩
  rw [EA.out] at h4 ⊢
  have H4 := hid h4
  have HO := hid (h4c.own G1.out (fun k hk h => h.2 (.inr (hX k hk))))
  have HXX := hid hX
  clear h4 h4c hown hX
  go_wp2_with fail
  go_loopw [27] (fun i wr => ∃ k : Nat, k ≤ n ∧ i = .int .i64 k ∧ wr.ownsRow 0 5 1 (.slice A' n c') n (u8s (flip b k)) ∧ Lv w wr (fun k => False ∨ w2.heap.size ≤ k ∧ k < w3.heap.size) w1.heap.size (calm ([] ++ b) 0 600)) (fun i _ => n - (intOf i).toNat)
  case atStart => exact ⟨0, Nat.zero_le _, rfl, by rw [flip_zero]; exact HO.out, H4.out⟩
  case round =>
    obtain ⟨k, hk, rfl, ho, hl⟩ := hrel
    have HO := hid ho
    have HL := hid hl
    clear ho hl
    by_cases hlt : k < n
    · obtain ⟨g2, hA2, hg2⟩ := own_form HO.out (by omega)
      subst hA2
      obtain ⟨y, hy⟩ : ∃ y, b[k]? = some y := ⟨_, List.getElem?_eq_getElem (by have := HN.out; omega)⟩
      obtain ⟨hcell, hfree⟩ := own_u8 HO.out (flip_at hy)
      have HY := hid hy
      clear hy
      go_wp2
      go_roundw
      case measure => simp [intOf]; omega
      case rel =>
        rw [xor255]
        refine ⟨k + 1, by omega, by go_num, ?_, ?_⟩
        · rw [flip_succ HY.out]; exact own_u8_set HO.out k _
        · exact HL.out.chg ((Chg.refl _ wr).set (fun _ => ⟨.inr (HXX.out g2 rfl), by have h1 := (HXX.out g2 rfl).1; have h2 := H2.out.below.size; show w.heap.size ≤ g2; omega⟩) _)
    · go_wp2_with fail
      refine (lv_bytes HL.out).mono ?_
      rintro e w5 ⟨c5, rfl, h5, h5r, h5c, _⟩
      simp only [List.nil_append] at h5r
      have H5 := hid h5
      have R5 := hid h5r
      have HB5 := hid (show w.heap.size ≤ wr.heap.size from HL.out.size)
      clear h5 h5r h5c HXX HX HO
      have hbl : b.length ≤ 300 := by have := HN.out; omega
      obtain ⟨wq, rfl⟩ : ∃ wq : World, wq = wr := ⟨_, rfl⟩
      go_wp2_with fail
      go_loopw [41] (fun i wz => ∃ k : Nat, k ≤ b.length ∧ i = .int .i64 k ∧ wz.ownsRow 0 5 1 (.slice (some ⟨wq.heap.size, 0, none⟩) b.length c5) b.length (u8s (flip b k)) ∧ Lv w wz (fun k => (False ∨ w2.heap.size ≤ k ∧ k < w3.heap.size) ∨ k = wq.heap.size) w1.heap.size (calm ([] ++ b) 0 600)) (fun i _ => b.length - (intOf i).toNat)
      case atStart => exact ⟨0, Nat.zero_le _, rfl, by rw [flip_zero]; exact R5.out, H5.out⟩
      case round =>
        obtain ⟨k2, hk2, rfl, ho, hl⟩ := hrel
        have HO := hid ho
        have HL2 := hid hl
        clear ho hl
        by_cases hlt2 : k2 < b.length
        · obtain ⟨y, hy⟩ : ∃ y, b[k2]? = some y := ⟨_, List.getElem?_eq_getElem hlt2⟩
          obtain ⟨hcell, hfree⟩ := own_u8 HO.out (flip_at hy)
          have HY := hid hy
          clear hy
          go_wp2
          go_roundw
          case measure => simp [intOf]; omega
          case rel =>
            rw [xor255]
            refine ⟨k2 + 1, by omega, by go_num, ?_, ?_⟩
            · rw [flip_succ HY.out]; exact own_u8_set HO.out k2 _
            · exact HL2.out.chg ((Chg.refl _ _).set (fun _ => ⟨.inr rfl, HB5.out⟩) _)
        · go_wp2_with fail
          have hsb : ∀ wx : World, Below w.heap.size w wx → (convert 22 9 (.slice A n c)).run Try.prog wx = .ok (.string (bstr b)) wx := fun wx hb =>
            str_run (P := Try.prog) (src := 22) (dst := 9) (e := 5) Try.underlying22 Try.underlying5 Try.underlying9 HN.out (HB.out.chg (Chg.of_below hb) (fun k hk h => by omega)) HA.out HC.out
          have hs1 := hsb _ HL2.out.below.drew
          go_region_with (go_at_call 17; refine (lv_bytes (HL2.out.drewN 1)).mono ?_; rintro e w6 ⟨c6, rfl, h6, h6r, h6c, h6d⟩; have H6 := hid h6; have hs2 := hsb _ h6.below; have hs3 : (convert 22 9 (.slice (some ⟨wr.heap.size, 0, none⟩) b.length c6)).run Try.prog w6 = .ok (.string (bstr b)) w6 := str_run (P := Try.prog) (src := 22) (dst := 9) (e := 5) (l := b) Try.underlying22 Try.underlying5 Try.underlying9 rfl (own_at h6r).2.2.2 (by simp) h6d; clear h6 h6r h6c h6d)
          all_goals (go_wp2; go_ret; exact ⟨rfl, H6.out.below⟩)

theorem TapeOwn_walk (w : World) (A : Option Addr) (n c : Nat) (b : List UInt8) (hb : Ty.At Ty.u8 w (fun k => k < w.heap.size) A n c b) :
    Calls Try.prog 4 #[.slice A n c] w fun e w' => e = .returned (.bool true) ∧ Below w.heap.size w w' := by
  by_cases h : n ≤ 300
  · exact own_in w A n c b h hb
  · exact own_out w A n c b (by omega)
end Go.Proofs.Ytmllakklhbmboaa.T
