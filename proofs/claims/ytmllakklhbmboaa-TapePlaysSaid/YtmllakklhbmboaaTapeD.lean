/- The contract of the law's own 'does': one step on the tape. -/
import Derived.Test.YtmllakklhbmboaaTapeL
namespace Go.Proofs.Ytmllakklhbmboaa.T
set_option linter.unusedVariables false
set_option linter.unusedSimpArgs false
open Go.RowKit Go.Proofs.Ytmllakklhbmboaa.C
attribute [local go_sem] max2_int min2_int max_two min_two

def TS.does (T : TS) (k n : Int) (l : List UInt8) : TS × Int :=
  if k = 1 then T.append l else if k = 2 then T.sync else if k = 3 then T.trim n else if k = 4 then ({ T with left := mx n (-1) }, 0) else if k = 5 then (T.crash n l, 0) else (T, 0)

theorem LvTo.over {w0 w w' : World} {X : Nat → Prop} {g : Nat} {T : TS} {o : Obj} (h : LvTo w0 (fun k => X k ∨ k = w.heap.size) g T (w.alloc o) w') (hs : w0.heap.size ≤ w.heap.size) : LvTo w0 X g T w w' := by
  obtain ⟨⟨⟨S, v, ht, hS⟩, hb, hx, ok⟩, hc⟩ := h
  exact ⟨⟨⟨S, v, ht, fun k hk hl => ⟨(hS k hk hl).1, fun hx => (hS k hk hl).2 (.inl hx)⟩⟩, hb, fun k hk => hx k (.inl hk), ok⟩, ((Chg.refl (fun k => w0.heap.size ≤ k ∧ ¬ X k) w).alloc o).trans hc (fun k hk _ => ⟨hk.1, fun hx => hk.2 (.inl hx)⟩)⟩

set_option maxHeartbeats 2000000 in
theorem lv_does {w0 w : World} {X R : Nat → Prop} {g : Nat} {T : TS} {kind n : Int} {A : Option Addr} {m c : Nat} {l : List UInt8} (h : Lv w0 w X g T) (hn : n ≤ 9223372036854775807) (hA : A = none → c = 0) (hm : m = l.length) (hc : m ≤ c) (hs : Sees w R A (u8s l)) (hR : ∀ k, R k → k < w0.heap.size ∨ X k) :
    Calls Try.prog 27 #[.pointer (some ⟨g, 0, none⟩), .agg #[.int .i64 kind, .int .i64 n, .slice A m c]] w fun e w' => e = .returned (.int .i64 (T.does kind n l).2) ∧ LvTo w0 X g (T.does kind n l).1 w w' := by
  have H := hid h
  have HS := hid h.size
  have HB := hid (blk_new w (.cells #[.int .i64 kind, .int .i64 n, .slice A m c] 48))
  have HSE := hid hs
  have HA := hid hA
  have HM := hid hm
  have HC := hid hc
  by_cases h1 : kind = 1
  · subst h1
    clear h hs hA hm hc
    go_enter Try.func27, Try.ntmps27
    go_wp2_with fail
    refine ((lv_append (l := l) (H.out.alloc _) HA.out HM.out HC.out (HSE.out.chg ((Chg.refl (fun _ => False) w).alloc _) (fun _ _ h => h)) (fun k hk => by rcases hR k hk with h | h; exact .inl h; exact .inr (.inl h)))).mono ?_
    rintro e w' ⟨rfl, h2⟩
    have H2 := hid (LvTo.over h2 HS.out)
    clear h2
    go_wp2_with fail
    go_ret
    exact ⟨rfl, H2.out⟩
  by_cases h2 : kind = 2
  · subst h2
    clear h hs hA hm hc
    go_enter Try.func27, Try.ntmps27
    go_wp2_with fail
    refine (lv_sync (H.out.alloc _)).mono ?_
    rintro e w' ⟨rfl, h2⟩
    have H2 := hid (LvTo.over h2 HS.out)
    clear h2
    go_wp2_with fail
    go_ret
    exact ⟨rfl, H2.out⟩
  by_cases h3 : kind = 3
  · subst h3
    clear h hs hA hm hc
    go_enter Try.func27, Try.ntmps27
    go_wp2_with fail
    refine (lv_trim n (H.out.alloc _)).mono ?_
    rintro e w' ⟨rfl, h2⟩
    have H2 := hid (LvTo.over h2 HS.out)
    clear h2
    go_wp2_with fail
    go_ret
    exact ⟨rfl, H2.out⟩
  by_cases h4 : kind = 4
  · subst h4
    clear h hs hA hm hc
    go_enter Try.func27, Try.ntmps27
    go_wp2_with fail
    refine (lv_arm n hn (H.out.alloc _)).mono ?_
    rintro e w' ⟨rfl, h2⟩
    have H2 := hid (LvTo.over h2 HS.out)
    clear h2
    go_wp2_with fail
    go_ret
    exact ⟨rfl, H2.out⟩
  by_cases h5 : kind = 5
  · subst h5
    clear h hs hA hm hc
    go_enter Try.func27, Try.ntmps27
    go_wp2_with fail
    refine ((lv_crash (l := l) (H.out.alloc _) HA.out HM.out HC.out (HSE.out.chg ((Chg.refl (fun _ => False) w).alloc _) (fun _ _ h => h)) (fun k hk => by rcases hR k hk with h | h; exact .inl h; exact .inr (.inl h)))).mono ?_
    rintro e w' ⟨rfl, h2⟩
    have H2 := hid (LvTo.over h2 HS.out)
    clear h2
    go_wp2_with fail
    go_ret
    exact ⟨rfl, H2.out⟩
  have E := hid (show T.does kind n l = (T, 0) by simp [TS.does, h1, h2, h3, h4, h5])
  clear h hs hA hm hc
  go_enter Try.func27, Try.ntmps27
  go_wp2_with fail
  go_ret
  rw [E.out]
  exact ⟨rfl, LvTo.over ⟨H.out.alloc _, Chg.refl _ _⟩ HS.out⟩

end Go.Proofs.Ytmllakklhbmboaa.T
