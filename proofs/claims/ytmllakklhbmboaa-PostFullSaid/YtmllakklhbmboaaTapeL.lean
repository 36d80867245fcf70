/- Tape's methods in a law: the law's own other blocks X are left alone, and so is all that was there ahead of it. -/
import Derived.Test.YtmllakklhbmboaaTapeC
namespace Go.Proofs.Ytmllakklhbmboaa.T
set_option linter.unusedVariables false
set_option linter.unusedSimpArgs false
open Go.RowKit Go.Proofs.Ytmllakklhbmboaa.C
attribute [local go_sem] max2_int min2_int max_two min_two

structure Lv (w0 w : World) (X : Nat → Prop) (g : Nat) (T : TS) : Prop where
  ex : ∃ S v, TapeAt w S g v T ∧ ∀ k, S k → k < w.heap.size → w0.heap.size ≤ k ∧ ¬ X k
  below : Below w0.heap.size w0 w
  xlt : ∀ k, X k → k < w.heap.size
  ok : T.Ok

def LvTo (w0 : World) (X : Nat → Prop) (g : Nat) (T : TS) (w w' : World) : Prop := Lv w0 w' X g T ∧ Chg (fun k => w0.heap.size ≤ k ∧ ¬ X k) w w'

theorem Lv.size {w0 w : World} {X : Nat → Prop} {g : Nat} {T : TS} (h : Lv w0 w X g T) : w0.heap.size ≤ w.heap.size := h.below.size

theorem Lv.alloc {w0 w : World} {X : Nat → Prop} {g : Nat} {T : TS} (h : Lv w0 w X g T) (o : Obj) : Lv w0 (w.alloc o) (fun k => X k ∨ k = w.heap.size) g T := by
  obtain ⟨S, v, ht, hS⟩ := h.ex
  have ht' : TapeAt w (fun k => S k ∧ k < w.heap.size) g v T := ht.mono (fun k hk hs => ⟨hs, hk⟩)
  refine ⟨⟨fun k => S k ∧ k < w.heap.size, v, ht'.chg ((Chg.refl (fun _ => False) w).alloc o) (fun _ _ h => h), fun k hk _ => ?_⟩, h.below.alloc h.size o, fun k hk => ?_, h.ok⟩
  · obtain ⟨h1, h2⟩ := hS k hk.1 hk.2
    refine ⟨h1, ?_⟩
    rintro (h3 | h3)
    · exact h2 h3
    · omega
  · rcases hk with hk | hk
    · have := h.xlt k hk; simp; omega
    · simp; omega
theorem Lv.drewN {w0 w : World} {X : Nat → Prop} {g : Nat} {T : TS} (h : Lv w0 w X g T) (n : Nat) : Lv w0 (w.drewN n) X g T := by
  obtain ⟨S, v, ht, hS⟩ := h.ex
  exact ⟨⟨S, v, ht.chg ((Chg.refl (fun _ => False) w).drewN n) (fun _ _ h => h), hS⟩, below_drewN h.below n, h.xlt, h.ok⟩
/-- The law writes a block of its own. -/
theorem Lv.chg {w0 w w' : World} {X : Nat → Prop} {g : Nat} {T : TS} (h : Lv w0 w X g T) (hc : Chg (fun k => X k ∧ w0.heap.size ≤ k) w w') : Lv w0 w' X g T := by
  obtain ⟨S, v, ht, hS⟩ := h.ex
  have ht' : TapeAt w (fun k => S k ∧ k < w.heap.size) g v T := ht.mono (fun k hk hs => ⟨hs, hk⟩)
  refine ⟨⟨fun k => S k ∧ k < w.heap.size, v, ht'.chg hc (fun k hk hx => (hS k hk.1 hk.2).2 hx.1), fun k hk _ => hS k hk.1 hk.2⟩, h.below.trans (hc.below h.size (fun k hk => hk.2)), fun k hk => Nat.lt_of_lt_of_le (h.xlt k hk) hc.size, h.ok⟩

theorem TS.called_ok {T : TS} (h : T.Ok) : T.called.Ok := ⟨h.s0, h.s1, h.r0, h.r1, by have := h.l0; simp only [TS.called, mx_eq]; omega, by have := h.l1; simp only [TS.called, mx_eq]; omega⟩
theorem TS.append_ok {T : TS} (h : T.Ok) (l : List UInt8) : (T.append l).1.Ok := by
  unfold TS.append
  split
  · exact h
  · split
    · exact h
    · have hc := TS.called_ok h
      have h1 := h.s1
      exact ⟨hc.s0, by simp only [TS.called, List.length_append]; omega, by simp only [TS.called, List.length_append]; omega, hc.r1, hc.l0, hc.l1⟩
theorem TS.sync_ok {T : TS} (h : T.Ok) : T.sync.1.Ok := by
  unfold TS.sync
  split
  · exact h
  · split
    · exact TS.called_ok h
    · have hc := TS.called_ok h
      exact ⟨Int.natCast_nonneg _, Int.le_refl _, hc.r0, hc.r1, hc.l0, hc.l1⟩
theorem TS.trim_ok {T : TS} (h : T.Ok) (n : Int) : (T.trim n).1.Ok := by
  unfold TS.trim
  split
  · exact h
  · split
    · exact h
    · split
      · exact TS.called_ok h
      · have hc := TS.called_ok h
        have h1 := h.r0
        exact ⟨by show 0 ≤ n; omega, by show n ≤ _; simp only [List.length_take]; omega, by show ((T.b.take n.toNat).length : Int) ≤ T.room; simp only [List.length_take]; omega, hc.r1, hc.l0, hc.l1⟩
theorem TS.arm_ok {T : TS} (h : T.Ok) (n : Int) (hn : n ≤ 9223372036854775807) : ({ T with left := mx n (-1) } : TS).Ok := ⟨h.s0, h.s1, h.r0, h.r1, by show -1 ≤ mx n (-1); rw [mx_eq]; omega, by show mx n (-1) ≤ _; rw [mx_eq]; omega⟩
theorem TS.crash_length {T : TS} (h : T.Ok) (keep : Int) (turn : List UInt8) : (T.crash keep turn).b.length = T.safe.toNat + (min (max keep 0) (T.b.length - T.safe)).toNat := by
  have h1 := h.s0
  have h2 := h.s1
  simp only [TS.crash, List.length_append, turned_length, List.length_take, List.length_drop]
  omega
theorem TS.crash_ok {T : TS} (h : T.Ok) (keep : Int) (turn : List UInt8) : (T.crash keep turn).Ok := by
  have h1 := h.s0
  have h2 := h.s1
  have h3 := h.r0
  have hl := TS.crash_length h keep turn
  have e : (T.crash keep turn).safe = ((T.safe.toNat + (min (max keep 0) ((T.b.length : Int) - T.safe)).toNat : Nat) : Int) := rfl
  refine ⟨?_, ?_, ?_, h.r1, by show (-1 : Int) ≤ -1; omega, by show (-1 : Int) ≤ _; omega⟩
  · rw [e]; omega
  · rw [e, hl]; omega
  · rw [hl]; show _ ≤ T.room; omega

theorem lv_of_upd {w0 w w' : World} {X S : Nat → Prop} {g : Nat} {T T' : TS} (h : Lv w0 w X g T) (hS : ∀ k, S k → k < w.heap.size → w0.heap.size ≤ k ∧ ¬ X k) (hu : Upd S g T' w w') (ok : T'.Ok) : LvTo w0 X g T' w w' := by
  obtain ⟨v, ht, hc⟩ := hu
  have hc' : Chg (fun k => w0.heap.size ≤ k ∧ ¬ X k) w w' := hc.mono (fun k hk hlt => hS k hk hlt)
  refine ⟨⟨⟨fun k => (S k ∧ k < w.heap.size) ∨ w.heap.size ≤ k, v, ht.mono (fun k _ hk => ?_), fun k hk _ => ?_⟩, h.below.trans (hc'.below h.size (fun k hk => hk.1)), fun k hk => Nat.lt_of_lt_of_le (h.xlt k hk) hc.size, ok⟩, hc'⟩
  · rcases hk with hk | hk
    · rcases Nat.lt_or_ge k w.heap.size with h1 | h1
      · exact .inl ⟨hk, h1⟩
      · exact .inr h1
    · exact .inr hk
  · rcases hk with hk | hk
    · exact hS k hk.1 hk.2
    · exact ⟨Nat.le_trans h.size hk, fun hx => by have := h.xlt k hx; omega⟩
theorem upd_of_same {w w' : World} {S : Nat → Prop} {g : Nat} {v : Value} {T' : TS} (ht : TapeAt w' S g v T') (hc : Chg S w w') : Upd S g T' w w' := ⟨v, ht.mono (fun k _ hk => .inl hk), hc⟩

theorem lv_new (w0 w : World) (X : Nat → Prop) (room : Int) (hb : Below w0.heap.size w0 w) (hx : ∀ k, X k → k < w.heap.size) (h0 : 0 ≤ room) (h1 : room ≤ 1048576) :
    Calls Try.prog 13 #[.int .i64 room] w fun e w' => e = .returned (.pointer (some ⟨w.heap.size, 0, none⟩)) ∧ LvTo w0 X w.heap.size ⟨[], 0, room, -1, false⟩ w w' := by
  refine (new_any room w h0 h1).mono ?_
  rintro e w' ⟨rfl, ht, hc⟩
  refine ⟨rfl, ⟨⟨_, _, ht, fun k hk _ => ⟨Nat.le_trans hb.size hk, fun h => by have := hx k h; omega⟩⟩, hb.trans (hc.below hb.size (fun _ h => h.elim)), fun k hk => Nat.lt_of_lt_of_le (hx k hk) hc.size, ⟨by simp, by simp, by simpa using h0, h1, by simp, by simp⟩⟩, hc.mono (fun _ h _ => h.elim)⟩
theorem lv_append {w0 w : World} {X R : Nat → Prop} {g : Nat} {T : TS} {A : Option Addr} {n c : Nat} {l : List UInt8} (h : Lv w0 w X g T) (hA : A = none → c = 0) (hn : n = l.length) (hc : n ≤ c) (hs : Sees w R A (u8s l)) (hR : ∀ k, R k → k < w0.heap.size ∨ X k) :
    Calls Try.prog 14 #[.pointer (some ⟨g, 0, none⟩), .slice A n c] w fun e w' => e = .returned (.int .i64 (T.append l).2) ∧ LvTo w0 X g (T.append l).1 w w' := by
  obtain ⟨S, v, ht, hS⟩ := h.ex
  have ht' : TapeAt w (fun k => S k ∧ k < w.heap.size) g v T := ht.mono (fun k hk hs => ⟨hs, hk⟩)
  refine (append_any _ R g v T A n c l w ht' h.ok hA hn hc hs (fun k hk hk' => ?_)).mono ?_
  · obtain ⟨h1, h2⟩ := hS k hk'.1 hk'.2
    rcases hR k hk with h3 | h3
    · omega
    · exact h2 h3
  · rintro e w' ⟨rfl, hu⟩
    exact ⟨rfl, lv_of_upd h (fun k hk _ => hS k hk.1 hk.2) hu (TS.append_ok h.ok l)⟩
theorem lv_sync {w0 w : World} {X : Nat → Prop} {g : Nat} {T : TS} (h : Lv w0 w X g T) :
    Calls Try.prog 15 #[.pointer (some ⟨g, 0, none⟩)] w fun e w' => e = .returned (.int .i64 T.sync.2) ∧ LvTo w0 X g T.sync.1 w w' := by
  obtain ⟨S, v, ht, hS⟩ := h.ex
  refine (sync_any _ g v T w ht h.ok).mono ?_
  rintro e w' ⟨rfl, h1, h2⟩
  exact ⟨rfl, lv_of_upd h hS (upd_of_same h1 h2) (TS.sync_ok h.ok)⟩
theorem lv_trim {w0 w : World} {X : Nat → Prop} {g : Nat} {T : TS} (n : Int) (h : Lv w0 w X g T) :
    Calls Try.prog 26 #[.pointer (some ⟨g, 0, none⟩), .int .i64 n] w fun e w' => e = .returned (.int .i64 (T.trim n).2) ∧ LvTo w0 X g (T.trim n).1 w w' := by
  obtain ⟨S, v, ht, hS⟩ := h.ex
  refine (trim_any _ g v T n w ht h.ok).mono ?_
  rintro e w' ⟨rfl, hu⟩
  exact ⟨rfl, lv_of_upd h hS hu (TS.trim_ok h.ok n)⟩
theorem lv_arm {w0 w : World} {X : Nat → Prop} {g : Nat} {T : TS} (n : Int) (hn : n ≤ 9223372036854775807) (h : Lv w0 w X g T) :
    Calls Try.prog 42 #[.pointer (some ⟨g, 0, none⟩), .int .i64 n] w fun e w' => e = .returned (.tuple #[]) ∧ LvTo w0 X g { T with left := mx n (-1) } w w' := by
  obtain ⟨S, v, ht, hS⟩ := h.ex
  refine (arm_any _ g v T n w ht).mono ?_
  rintro e w' ⟨rfl, h1, h2⟩
  exact ⟨rfl, lv_of_upd h hS (upd_of_same h1 (h2.mono (fun k hk _ => by subst hk; exact ht.inS))) (TS.arm_ok h.ok n hn)⟩
theorem lv_crash {w0 w : World} {X R : Nat → Prop} {g : Nat} {T : TS} {keep : Int} {A : Option Addr} {n c : Nat} {l : List UInt8} (h : Lv w0 w X g T) (hA : A = none → c = 0) (hn : n = l.length) (hc : n ≤ c) (hs : Sees w R A (u8s l)) (hR : ∀ k, R k → k < w0.heap.size ∨ X k) :
    Calls Try.prog 16 #[.pointer (some ⟨g, 0, none⟩), .int .i64 keep, .slice A n c] w fun e w' => e = .returned (.tuple #[]) ∧ LvTo w0 X g (T.crash keep l) w w' := by
  obtain ⟨S, v, ht, hS⟩ := h.ex
  have ht' : TapeAt w (fun k => S k ∧ k < w.heap.size) g v T := ht.mono (fun k hk hs => ⟨hs, hk⟩)
  refine (crash_any _ R g v T keep A n c l w ht' h.ok hA hn hc hs (fun k hk hk' => ?_)).mono ?_
  · obtain ⟨h1, h2⟩ := hS k hk'.1 hk'.2
    rcases hR k hk with h3 | h3
    · omega
    · exact h2 h3
  · rintro e w' ⟨rfl, hu⟩
    exact ⟨rfl, lv_of_upd h (fun k hk _ => hS k hk.1 hk.2) hu (TS.crash_ok h.ok keep l)⟩
theorem lv_safe {w0 w : World} {X : Nat → Prop} {g : Nat} {T : TS} (h : Lv w0 w X g T) :
    Calls Try.prog 18 #[.pointer (some ⟨g, 0, none⟩)] w fun e w' => e = .returned (.int .i64 T.safe) ∧ w = w' := by
  obtain ⟨S, v, ht, hS⟩ := h.ex
  exact safe_any S g v T w ht
theorem lv_down {w0 w : World} {X : Nat → Prop} {g : Nat} {T : TS} (h : Lv w0 w X g T) :
    Calls Try.prog 29 #[.pointer (some ⟨g, 0, none⟩)] w fun e w' => e = .returned (.bool T.down) ∧ w = w' := by
  obtain ⟨S, v, ht, hS⟩ := h.ex
  exact down_any S g v T w ht
theorem lv_room {w0 w : World} {X : Nat → Prop} {g : Nat} {T : TS} (h : Lv w0 w X g T) :
    Calls Try.prog 25 #[.pointer (some ⟨g, 0, none⟩)] w fun e w' => e = .returned (.int .i64 (T.room - T.b.length)) ∧ ∃ n, w' = w.drewN n := by
  obtain ⟨S, v, ht, hS⟩ := h.ex
  exact room_any S g v T w ht h.ok
/-- Bytes: the row that is told lies at the heap's end, and is the law's own. -/
def BytesTo (w0 : World) (X : Nat → Prop) (g : Nat) (T : TS) (w w' : World) (c : Nat) : Prop :=
  Lv w0 w' (fun k => X k ∨ k = w.heap.size) g T ∧ w'.ownsRow 0 5 1 (.slice (some ⟨w.heap.size, 0, none⟩) T.b.length c) T.b.length (u8s T.b) ∧ Chg (fun _ => False) w w' ∧ T.b.length ≤ c
theorem lv_bytes {w0 w : World} {X : Nat → Prop} {g : Nat} {T : TS} (h : Lv w0 w X g T) :
    Calls Try.prog 17 #[.pointer (some ⟨g, 0, none⟩)] w fun e w' => ∃ c, e = .returned (.slice (some ⟨w.heap.size, 0, none⟩) T.b.length c) ∧ BytesTo w0 X g T w w' c := by
  obtain ⟨S, v, ht, hS⟩ := h.ex
  have ht' : TapeAt w (fun k => S k ∧ k < w.heap.size) g v T := ht.mono (fun k hk hs => ⟨hs, hk⟩)
  have hr0 := h.ok.r0
  have hr1 := h.ok.r1
  refine (bytes_any _ g v T w ht' (by omega)).mono ?_
  rintro e w' ⟨c, rfl, h1, h2⟩
  have hlt := own_lt h1 w.heap.size rfl
  refine ⟨c, rfl, ⟨⟨_, v, ht'.chg h2 (fun _ _ h => h), fun k hk _ => ?_⟩, h.below.trans (h2.below h.size (fun _ h => h.elim)), fun k hk => ?_, h.ok⟩, h1, h2, ?_⟩
  · obtain ⟨h3, h4⟩ := hS k hk.1 hk.2
    refine ⟨h3, ?_⟩
    rintro (h5 | h5)
    · exact h4 h5
    · have := hk.2; omega
  · rcases hk with hk | hk
    · exact Nat.lt_of_lt_of_le (h.xlt k hk) h2.size
    · omega
  · obtain ⟨_, _, hv, hle, _⟩ := own_sees h1
    injection hv with _ _ hcc
    omega

/-- All that was made since is the law's own. -/
theorem Lv.since {w0 w w' : World} {X : Nat → Prop} {g : Nat} {T : TS} (h : Lv w0 w X g T) (hc : Chg (fun k => X k ∧ w0.heap.size ≤ k) w w') : Lv w0 w' (fun k => X k ∨ (w.heap.size ≤ k ∧ k < w'.heap.size)) g T := by
  obtain ⟨S, v, ht, hS⟩ := h.ex
  have ht' : TapeAt w (fun k => S k ∧ k < w.heap.size) g v T := ht.mono (fun k hk hs => ⟨hs, hk⟩)
  refine ⟨⟨fun k => S k ∧ k < w.heap.size, v, ht'.chg hc (fun k hk hx => (hS k hk.1 hk.2).2 hx.1), fun k hk _ => ?_⟩, h.below.trans (hc.below h.size (fun k hk => hk.2)), fun k hk => ?_, h.ok⟩
  · obtain ⟨h3, h4⟩ := hS k hk.1 hk.2
    refine ⟨h3, ?_⟩
    rintro (h5 | h5)
    · exact h4 h5
    · have := hk.2; omega
  · rcases hk with hk | hk
    · exact Nat.lt_of_lt_of_le (h.xlt k hk) hc.size
    · exact hk.2

end Go.Proofs.Ytmllakklhbmboaa.T
