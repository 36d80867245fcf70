/- Contracts of tape.Tape's methods. -/
import Derived.Test.YtmllakklhbmboaaCore
namespace Go.Proofs.Ytmllakklhbmboaa.T
set_option linter.unusedVariables false
set_option linter.unusedSimpArgs false
open Go.RowKit Go.Proofs.Ytmllakklhbmboaa.C
attribute [local go_sem] max2_int min2_int max_two min_two

/-- A tape as plain data. -/
structure TS where
  b : List UInt8
  safe : Int
  room : Int
  left : Int
  down : Bool

def tcells (v : Value) (T : TS) : Array Value := #[v, .int .i64 T.safe, .int .i64 T.room, .int .i64 T.left, .bool T.down]

/-- What a tape's fields keep to. -/
structure TS.Ok (T : TS) : Prop where
  s0 : 0 ≤ T.safe
  s1 : T.safe ≤ T.b.length
  r0 : (T.b.length : Int) ≤ T.room
  r1 : T.room ≤ 1048576
  l0 : -1 ≤ T.left
  l1 : T.left ≤ 9223372036854775807

/-- The tape T lies at block g; all its blocks are in S. -/
structure TapeAt (w : World) (S : Nat → Prop) (g : Nat) (v : Value) (T : TS) : Prop where
  inS : S g
  blk : w.heap[g]? = some (.cells (tcells v T) 69 (0, 0))
  row : w.ownsRow 0 5 1 v T.b.length (u8s T.b)
  rowS : ∀ k, v.ownBlock = some k → S k

theorem TapeAt.ne {w : World} {S : Nat → Prop} {g : Nat} {v : Value} {T : TS} (h : TapeAt w S g v T) : v.ownBlock ≠ some g := own_ne h.row h.blk (by decide)
theorem TapeAt.cells {w : World} {S : Nat → Prop} {g : Nat} {v : Value} {T : TS} (h : TapeAt w S g v T) :
    w.cell? ⟨g, 0, none⟩ = some v ∧ w.cell? ⟨g, 1, none⟩ = some (.int .i64 T.safe) ∧ w.cell? ⟨g, 2, none⟩ = some (.int .i64 T.room) ∧ w.cell? ⟨g, 3, none⟩ = some (.int .i64 T.left) ∧ w.cell? ⟨g, 4, none⟩ = some (.bool T.down) := by
  refine ⟨?_, ?_, ?_, ?_, ?_⟩ <;> (rw [cellAt h.blk]; rfl)
theorem TapeAt.free {w : World} {S : Nat → Prop} {g : Nat} {v : Value} {T : TS} (h : TapeAt w S g v T) (i : Nat) : w.frozen? ⟨g, i, none⟩ = false := freeAt h.blk i
theorem TapeAt.chg {w w' : World} {S M : Nat → Prop} {g : Nat} {v : Value} {T : TS} (h : TapeAt w S g v T) (hc : Chg M w w') (hd : ∀ k, S k → ¬ M k) : TapeAt w' S g v T :=
  ⟨h.inS, hc.blk h.blk (hd _ h.inS), hc.own h.row (fun k hk => hd _ (h.rowS k hk)), h.rowS⟩
theorem TapeAt.mono {w : World} {S S' : Nat → Prop} {g : Nat} {v : Value} {T : TS} (h : TapeAt w S g v T) (hS : ∀ k, k < w.heap.size → S k → S' k) : TapeAt w S' g v T :=
  ⟨hS _ (lt_of_blk h.blk) h.inS, h.blk, h.row, fun k hk => hS _ (own_lt h.row k hk) (h.rowS k hk)⟩

theorem info5 : (Try.prog.info? 5).map (fun i => (i.zero, i.size, i.bytes)) = some (some (.int .u8 0), 1, 1) := by kernel_rfl

def TS.called (T : TS) : TS := { T with down := T.left == 0, left := mx (T.left - 1) (-1) }

set_option maxHeartbeats 400000 in
theorem call_any (S : Nat → Prop) (g : Nat) (v : Value) (T : TS) (w : World) (h : TapeAt w S g v T) (hok : T.Ok) :
    Calls Try.prog 37 #[.pointer (some ⟨g, 0, none⟩)] w fun e w' => e = .returned (.bool (!(T.left == 0))) ∧ TapeAt w' S g v T.called ∧ Chg (fun k => k = g) w w' := by
  have H := hid h
  obtain ⟨_, _, _, c3, c4⟩ := h.cells
  have f3 := h.free 3
  have f4 := h.free 4
  have l0 := hok.l0
  have l1 := hok.l1
  clear h hok
  have hend : TapeAt ((w.setCell ⟨g, 4, none⟩ (.bool (T.left == 0))).setCell ⟨g, 3, none⟩ (.int .i64 (mx (T.left - 1) (-1)))) S g v T.called ∧ Chg (fun k => k = g) w ((w.setCell ⟨g, 4, none⟩ (.bool (T.left == 0))).setCell ⟨g, 3, none⟩ (.int .i64 (mx (T.left - 1) (-1)))) := by
    have h := H.out
    have hc : Chg (fun k => k = g) w ((w.setCell ⟨g, 4, none⟩ (.bool (T.left == 0))).setCell ⟨g, 3, none⟩ (.int .i64 (mx (T.left - 1) (-1)))) := ((Chg.refl (fun k => k = g) w).set (fun _ => rfl) _).set (fun _ => rfl) _
    refine ⟨⟨h.inS, ?_, ?_, h.rowS⟩, hc⟩
    · exact blk_set (blk_set h.blk 4 _) 3 _
    · exact hc.own h.row (fun k hk => by rintro rfl; exact h.ne hk)
  have HE := hid hend
  clear hend
  go_enter Try.func37, Try.ntmps37
  go_wp2
  go_ret
  exact ⟨rfl, HE.out⟩

set_option maxHeartbeats 400000 in
theorem new_any (room : Int) (w : World) (h0 : 0 ≤ room) (h1 : room ≤ 1048576) :
    Calls Try.prog 13 #[.int .i64 room] w fun e w' => e = .returned (.pointer (some ⟨w.heap.size, 0, none⟩)) ∧ TapeAt w' (fun k => w.heap.size ≤ k) w.heap.size (.slice none 0 0) ⟨[], 0, room, -1, false⟩ ∧ Chg (fun _ => False) w w' := by
  have hend : TapeAt (w.alloc (.cells (tcells (.slice none 0 0) ⟨[], 0, room, -1, false⟩) 69)) (fun k => w.heap.size ≤ k) w.heap.size (.slice none 0 0) ⟨[], 0, room, -1, false⟩ ∧ Chg (fun _ => False) w (w.alloc (.cells (tcells (.slice none 0 0) ⟨[], 0, room, -1, false⟩) 69)) :=
    ⟨⟨Nat.le_refl _, blk_new _ _, own_nil _ _ _, fun k hk => by simp [Value.ownBlock] at hk⟩, (Chg.refl _ w).alloc _⟩
  have HE := hid hend
  clear hend
  go_enter Try.func13, Try.ntmps13
  go_wp2
  go_ret
  exact ⟨rfl, HE.out⟩
set_option maxHeartbeats 400000 in
theorem new_no (room : Int) (w : World) (h : room < 0 ∨ 1048576 < room) :
    Calls Try.prog 13 #[.int .i64 room] w fun e w' => e = .returned (.pointer none) ∧ w = w' := by
  rcases h with h | h
  · go_enter Try.func13, Try.ntmps13
    go_wp2
    go_ret
    exact ⟨rfl, rfl⟩
  · have h' : ¬ room < 0 := by omega
    go_enter Try.func13, Try.ntmps13
    go_wp2
    go_ret
    exact ⟨rfl, rfl⟩

set_option maxHeartbeats 400000 in
theorem safe_any (S : Nat → Prop) (g : Nat) (v : Value) (T : TS) (w : World) (h : TapeAt w S g v T) :
    Calls Try.prog 18 #[.pointer (some ⟨g, 0, none⟩)] w fun e w' => e = .returned (.int .i64 T.safe) ∧ w = w' := by
  obtain ⟨_, c1, _, _, _⟩ := h.cells
  clear h
  go_enter Try.func18, Try.ntmps18
  go_wp2
  go_ret
  exact ⟨rfl, rfl⟩
set_option maxHeartbeats 400000 in
theorem down_any (S : Nat → Prop) (g : Nat) (v : Value) (T : TS) (w : World) (h : TapeAt w S g v T) :
    Calls Try.prog 29 #[.pointer (some ⟨g, 0, none⟩)] w fun e w' => e = .returned (.bool T.down) ∧ w = w' := by
  obtain ⟨_, _, _, _, c4⟩ := h.cells
  clear h
  go_enter Try.func29, Try.ntmps29
  go_wp2
  go_ret
  exact ⟨rfl, rfl⟩

set_option maxHeartbeats 400000 in
theorem arm_any (S : Nat → Prop) (g : Nat) (v : Value) (T : TS) (n : Int) (w : World) (h : TapeAt w S g v T) :
    Calls Try.prog 42 #[.pointer (some ⟨g, 0, none⟩), .int .i64 n] w fun e w' => e = .returned (.tuple #[]) ∧ TapeAt w' S g v { T with left := mx n (-1) } ∧ Chg (fun k => k = g) w w' := by
  have f3 := h.free 3
  obtain ⟨_, _, _, c3, _⟩ := h.cells
  have hend : TapeAt (w.setCell ⟨g, 3, none⟩ (.int .i64 (mx n (-1)))) S g v { T with left := mx n (-1) } ∧ Chg (fun k => k = g) w (w.setCell ⟨g, 3, none⟩ (.int .i64 (mx n (-1)))) := by
    have hc : Chg (fun k => k = g) w (w.setCell ⟨g, 3, none⟩ (.int .i64 (mx n (-1)))) := (Chg.refl (fun k => k = g) w).set (fun _ => rfl) _
    exact ⟨⟨h.inS, blk_set h.blk 3 _, hc.own h.row (fun k hk => by rintro rfl; exact h.ne hk), h.rowS⟩, hc⟩
  have HE := hid hend
  clear hend h
  go_enter Try.func42, Try.ntmps42
  go_wp2
  go_end0
  exact ⟨rfl, HE.out⟩

set_option maxHeartbeats 400000 in
theorem room_any (S : Nat → Prop) (g : Nat) (v : Value) (T : TS) (w : World) (h : TapeAt w S g v T) (hok : T.Ok) :
    Calls Try.prog 25 #[.pointer (some ⟨g, 0, none⟩)] w fun e w' => e = .returned (.int .i64 (T.room - T.b.length)) ∧ ∃ n, w' = w.drewN n := by
  obtain ⟨A, c, hv, _⟩ := own_sees h.row
  subst hv
  obtain ⟨c0, _, c2, _, _⟩ := h.cells
  have r0 := hok.r0
  have r1 := hok.r1
  clear h hok
  have er : IntKind.i64.wrap (T.room - (T.b.length : Int)) = T.room - (T.b.length : Int) := IntWalk.i64_in _ (by omega)
  go_enter Try.func25, Try.ntmps25
  go_wp2
  go_quiet (fail)
  go_wp2
  go_ret
  exact ⟨rfl, ⟨_, rfl⟩⟩

set_option maxHeartbeats 400000 in
/-- slices.Clone of bytes. -/
theorem clone_any (A : Option Addr) (l : List UInt8) (n c : Nat) (S : Nat → Prop) (w : World) (hA : A = none → c = 0) (hn : n = l.length) (hc : n ≤ c) (hs : Sees w S A (u8s l)) (hl : n ≤ 140737488355328) :
    Calls Try.prog 38 #[.slice A n c] w fun e w' => ∃ v, e = .returned v ∧ w'.ownsRow 0 5 1 v n (u8s l) ∧ Chg (fun _ => False) w w' ∧ (∀ k, v.ownBlock = some k → w.heap.size ≤ k) := by
  cases A with
  | none =>
    have := hA rfl
    subst this
    have : l = [] := List.eq_nil_of_length_eq_zero (by omega)
    subst this
    have : n = 0 := by omega
    subst this
    have e1 := fun w => run_eql_slice_nil (P := Try.prog) w 22 5 none 0 0 Try.underlying22
    clear hA hn hc hs hl
    go_enter Try.func38, Try.ntmps38
    go_wp2
    go_ret
    exact ⟨_, rfl, own_nil _ _ _, Chg.refl _ _, fun k hk => by simp [Value.ownBlock] at hk⟩
  | some a =>
    have e1 := fun w => run_eql_slice_nil (P := Try.prog) w 22 5 (some a) n c Try.underlying22
    have ho : (w.alloc (.cells #[] 5)).ownsRow 0 5 1 (.slice (some ⟨w.heap.size, 0, none⟩) 0 0) 0 [] := World.ownsRow_lit (base := 0) (e := 5) (size := 1) w #[] 0 (Nat.zero_le _) (by simp [maxLen]) rfl
    have H1 := hid hs
    have H2 := hid hn
    have H3 := hid hc
    have H4 := hid hl
    have H5 := hid ho
    clear hs hn hc hl hA ho
    go_enter Try.func38, Try.ntmps38
    go_wp2_with (first | (at_builtin; refine app_list _ rfl (.tmp 5) (.tmp 6) 22 5 (.int .u8 0) 1 1 rfl Try.underlying22 info5 rfl (by decide) (by decide) (.slice (some ⟨w.heap.size, 0, none⟩) 0 0) 0 [] rfl H5.out (some a) n c (u8s l) S rfl (by simp) H3.out (by rw [u8s_length, H2.out]; omega) (H1.out.chg ((Chg.refl (fun _ => False) w).alloc _) (fun _ _ h => h)) (u8s_one l) (by have := H4.out; omega) ?_; intro A' c' w' h1 h2 h3; have G1 := hid h1; have G2 := hid h2; have G3 := hid h3; clear h1 h2 h3))
    go_ret
    have g1 := G1.out
    have g3 := G3.out
    rw [Nat.zero_add] at g1 g3
    refine ⟨.slice A' n c', rfl, by simpa using g1, ?_, ?_⟩
    · exact ((Chg.refl (fun _ => False) w).alloc _).trans G2.out (fun i hi hlt => by simp [Value.ownBlock] at hi; omega)
    · intro k hk
      rcases g3 k hk with h | h
      · simp [Value.ownBlock] at h; omega
      · simp at h; omega

/-- A new row of bytes is laid into the tape. -/
theorem put_row {w1 w' : World} {S : Nat → Prop} {g N : Nat} {v v' : Value} {T : TS} {b : List UInt8} (h : TapeAt w1 S g v T) (hg : Chg (fun k => v.ownBlock = some k) w1 w') (ho : w'.ownsRow 0 5 1 v' b.length (u8s b))
    (hv : ∀ k, v'.ownBlock = some k → v.ownBlock = some k ∨ w1.heap.size ≤ k) (hN : N ≤ w1.heap.size) :
    TapeAt (w'.setCell ⟨g, 0, none⟩ v') (fun k => S k ∨ N ≤ k) g v' { T with b := b } ∧ Chg S w1 (w'.setCell ⟨g, 0, none⟩ v') := by
  have hb : w'.heap[g]? = some (.cells (tcells v T) 69 (0, 0)) := hg.blk h.blk h.ne
  have hne : v'.ownBlock ≠ some g := own_ne ho hb (by decide)
  refine ⟨⟨.inl h.inS, blk_set hb 0 v', ?_, fun k hk => ?_⟩, ?_⟩
  · exact ((Chg.refl (fun k => k = g) w').set (fun _ => rfl) _).own ho (fun k hk => by rintro rfl; exact hne hk)
  · rcases hv k hk with h' | h'
    · exact .inl (h.rowS k h')
    · exact .inr (by omega)
  · exact ((hg.mono (fun k hk _ => h.rowS k hk)).set (fun _ => h.inS) _)

/-- The tape T lies at g now; what had to be made is new. -/
def Upd (S : Nat → Prop) (g : Nat) (T : TS) (w w' : World) : Prop := ∃ v', TapeAt w' (fun k => S k ∨ w.heap.size ≤ k) g v' T ∧ Chg S w w'

/-- Append. -/
def TS.append (T : TS) (l : List UInt8) : TS × Int :=
  if T.down then (T, 40) else if T.room - T.b.length < l.length then (T, 41)
  else ({ T.called with b := T.b ++ l }, if T.left == 0 then 40 else 0)

set_option maxHeartbeats 1000000 in
theorem append_any (S R : Nat → Prop) (g : Nat) (v : Value) (T : TS) (A : Option Addr) (n c : Nat) (l : List UInt8) (w : World) (h : TapeAt w S g v T) (hok : T.Ok) (hA : A = none → c = 0) (hn : n = l.length) (hc : n ≤ c) (hs : Sees w R A (u8s l)) (hR : ∀ k, R k → ¬ S k) :
    Calls Try.prog 14 #[.pointer (some ⟨g, 0, none⟩), .slice A n c] w fun e w' => e = .returned (.int .i64 (T.append l).2) ∧ Upd S g (T.append l).1 w w' := by
  have c4 := h.cells.2.2.2.2
  have H := hid h
  have HOK := hid hok
  have r1 := hok.r1
  clear hok
  have hsame : TapeAt w (fun k => S k ∨ w.heap.size ≤ k) g v T := h.mono (fun k _ hk => .inl hk)
  have HS := hid hsame
  clear hsame
  by_cases hd : T.down = true
  · have e : T.append l = (T, 40) := by simp [TS.append, hd]
    have E := hid e
    clear e h
    rw [hd] at c4
    clear hd
    go_enter Try.func14, Try.ntmps14
    go_wp2
    go_ret
    exact ⟨by rw [E.out]; rfl, v, by rw [E.out]; exact HS.out, Chg.refl _ _⟩
  · have hd' : T.down = false := by simpa using hd
    clear hd
    by_cases hr : T.room - T.b.length < l.length
    · have e : T.append l = (T, 41) := by simp [TS.append, hd', hr]
      have E := hid e
      clear e h
      rw [hd'] at c4
      have ht : decide (T.room - (T.b.length : Int) < (n : Int)) = true := by rw [hn]; simpa using hr
      clear hd' hr
      have HN := hid hn
      clear hn
      go_enter Try.func14, Try.ntmps14
      go_wp2_with (first | (go_at_call 25; refine (room_any _ _ _ _ _ H.out HOK.out).mono ?_; rintro e w1 ⟨rfl, m, rfl⟩))
      go_ret
      refine ⟨by rw [E.out]; rfl, v, by rw [E.out]; exact HS.out.chg ((Chg.refl (fun _ => False) w).drewN _) (fun _ _ h => h), (Chg.refl _ _).drewN _⟩
    · have e : T.append l = ({ T.called with b := T.b ++ l }, if T.left == 0 then 40 else 0) := by simp [TS.append, hd', hr]
      have E := hid e
      have hlen : (n : Int) ≤ T.room - T.b.length := by omega
      have ht : decide (T.room - (T.b.length : Int) < (n : Int)) = false := by simpa using hlen
      have hrn := hid hlen
      clear e h hr hlen
      rw [hd'] at c4
      clear hd'
      have HN := hid hn
      have HR := hid hR
      have HSE := hid hs
      have HC := hid hc
      have R1 := hid r1
      clear hn hR hs hc r1
      go_enter Try.func14, Try.ntmps14
      go_wp2_with (first | (go_at_call 25; refine (room_any _ _ _ _ _ H.out HOK.out).mono ?_; rintro e w1 ⟨rfl, m, rfl⟩; have H2 := hid (H.out.chg ((Chg.refl (fun _ => False) w).drewN m) (fun _ _ h => h))) | (go_at_call 37; refine (call_any _ _ _ _ _ H2.out HOK.out).mono ?_; rintro e w1 ⟨rfl, h3, h4⟩; have H3 := hid h3; have H4 := hid h4; have c0 := h3.cells.1; have f0 := h3.free 0; clear h3 h4) | (at_builtin; refine app_list _ rfl (.tmp 23) (.tmp 24) 22 5 (.int .u8 0) 1 1 rfl Try.underlying22 info5 rfl (by decide) (by decide) v _ _ rfl H3.out.row A n c (u8s l) R rfl hA HC.out (by rw [u8s_length, HN.out]; omega) ((HSE.out.chg ((Chg.refl (fun _ => False) w).drewN m) (fun _ _ h => h)).chg H4.out (fun k hk => by rintro rfl; exact HR.out _ hk H.out.inS)) (u8s_one l) (by have := hrn.out; have := R1.out; simp only [TS.called]; omega) ?_; intro A' c' w' h1 h2 h3; have G1 := hid h1; have G2 := hid h2; have G3 := hid h3; have f0' : w'.frozen? ⟨g, 0, none⟩ = false := freeAt (h2.blk H3.out.blk H3.out.ne) 0; have c0' : w'.cell? ⟨g, 0, none⟩ = some v := (by rw [cellAt (h2.blk H3.out.blk H3.out.ne)]; rfl); clear h1 h2 h3 c0 f0))
      all_goals
        go_ret
        have P := put_row (b := T.b ++ l) (N := w.heap.size) H3.out G2.out (by have := G1.out; rw [List.length_append, ← HN.out, u8s_append]; exact this) G3.out H4.out.size
        refine ⟨by rw [E.out]; simp_all, _, by rw [E.out]; exact P.1, ?_⟩
        exact (((Chg.refl S w).drewN m).trans H4.out (fun i hi _ => by subst hi; exact H.out.inS)).trans P.2 (fun _ h _ => h)

def TS.sync (T : TS) : TS × Int := if T.down then (T, 40) else if T.left == 0 then (T.called, 40) else ({ T.called with safe := T.b.length }, 0)

set_option maxHeartbeats 1000000 in
theorem sync_any (S : Nat → Prop) (g : Nat) (v : Value) (T : TS) (w : World) (h : TapeAt w S g v T) (hok : T.Ok) :
    Calls Try.prog 15 #[.pointer (some ⟨g, 0, none⟩)] w fun e w' => e = .returned (.int .i64 T.sync.2) ∧ TapeAt w' S g v T.sync.1 ∧ Chg S w w' := by
  have c4 := h.cells.2.2.2.2
  have H := hid h
  have HOK := hid hok
  clear hok
  by_cases hd : T.down = true
  · have e : T.sync = (T, 40) := by simp [TS.sync, hd]
    have E := hid e
    clear e h
    rw [hd] at c4
    clear hd
    go_enter Try.func15, Try.ntmps15
    go_wp2
    go_ret
    exact ⟨by rw [E.out]; rfl, by rw [E.out]; exact H.out, Chg.refl _ _⟩
  · have hd' : T.down = false := by simpa using hd
    clear hd
    rw [hd'] at c4
    have e : T.sync = (if T.left == 0 then (T.called, 40) else ({ T.called with safe := T.b.length }, 0)) := by simp [TS.sync, hd']
    have E := hid e
    clear e h hd'
    by_cases hl : (T.left == 0) = true
    · have L := hid hl
      clear hl
      go_enter Try.func15, Try.ntmps15
      go_wp2_with (first | (go_at_call 37; refine (call_any _ _ _ _ _ H.out HOK.out).mono ?_; rintro e w1 ⟨rfl, h3, h4⟩; rw [L.out]; have H3 := hid h3; have H4 := hid h4; clear h3 h4))
      go_ret
      exact ⟨by rw [E.out, if_pos L.out]; rfl, by rw [E.out, if_pos L.out]; exact H3.out, H4.out.mono (fun i hi _ => by subst hi; exact H.out.inS)⟩
    · have hl' : (T.left == 0) = false := by simpa using hl
      have L := hid hl'
      clear hl hl'
      obtain ⟨A, c, hv, _⟩ := own_sees H.out.row
      subst hv
      go_enter Try.func15, Try.ntmps15
      go_wp2_with (first | (go_at_call 37; refine (call_any _ _ _ _ _ H.out HOK.out).mono ?_; rintro e w1 ⟨rfl, h3, h4⟩; rw [L.out]; have H3 := hid h3; have H4 := hid h4; have c0 := h3.cells.1; have c1 := h3.cells.2.1; have f1 := h3.free 1; clear h3 h4))
      go_ret
      have L' : ¬ (T.left == 0) = true := by rw [L.out]; decide
      have hc : Chg (fun k => k = g) w1 (w1.setCell ⟨g, 1, none⟩ (.int .i64 T.b.length)) := (Chg.refl (fun k => k = g) w1).set (fun _ => rfl) _
      refine ⟨by rw [E.out, if_neg L']; rfl, by rw [E.out, if_neg L']; exact ⟨H3.out.inS, blk_set H3.out.blk 1 _, hc.own H3.out.row (fun k hk => by rintro rfl; exact H3.out.ne hk), H3.out.rowS⟩, ?_⟩
      exact (H4.out.mono (fun i hi _ => by subst hi; exact H.out.inS)).trans hc (fun i hi _ => by subst hi; exact H.out.inS)

def TS.trim (T : TS) (n : Int) : TS × Int := if T.down then (T, 40) else if n < 0 ∨ (T.b.length : Int) < n then (T, 13) else if T.left == 0 then (T.called, 40) else ({ T.called with b := T.b.take n.toNat, safe := n }, 0)

set_option maxHeartbeats 1000000 in
theorem trim_any (S : Nat → Prop) (g : Nat) (v : Value) (T : TS) (n : Int) (w : World) (h : TapeAt w S g v T) (hok : T.Ok) :
    Calls Try.prog 26 #[.pointer (some ⟨g, 0, none⟩), .int .i64 n] w fun e w' => e = .returned (.int .i64 (T.trim n).2) ∧ Upd S g (T.trim n).1 w w' := by
  have c4 := h.cells.2.2.2.2
  have H := hid h
  have HOK := hid hok
  clear hok
  have hsame : TapeAt w (fun k => S k ∨ w.heap.size ≤ k) g v T := h.mono (fun k _ hk => .inl hk)
  have HS := hid hsame
  clear hsame
  obtain ⟨A, c, hv, hc1, hc2, hc3, hc4⟩ := own_sees h.row
  subst hv
  by_cases hd : T.down = true
  · have e : T.trim n = (T, 40) := by simp [TS.trim, hd]
    have E := hid e
    clear e h hc1 hc2 hc3 hc4
    rw [hd] at c4
    clear hd
    go_enter Try.func26, Try.ntmps26
    go_wp2
    go_ret
    exact ⟨by rw [E.out]; rfl, _, by rw [E.out]; exact HS.out, Chg.refl _ _⟩
  · have hd' : T.down = false := by simpa using hd
    clear hd
    rw [hd'] at c4
    by_cases hr : n < 0 ∨ (T.b.length : Int) < n
    · have e : T.trim n = (T, 13) := by simp [TS.trim, hd', hr]
      have E := hid e
      have c0 := h.cells.1
      clear e h hd' hc1 hc2 hc3 hc4
      rcases hr with hr | hr
      · go_enter Try.func26, Try.ntmps26
        go_wp2
        go_ret
        exact ⟨by rw [E.out]; rfl, _, by rw [E.out]; exact HS.out, Chg.refl _ _⟩
      · have h0 : ¬ n < 0 := by omega
        go_enter Try.func26, Try.ntmps26
        go_wp2
        go_ret
        exact ⟨by rw [E.out]; rfl, _, by rw [E.out]; exact HS.out, Chg.refl _ _⟩
    · have e : T.trim n = (if T.left == 0 then (T.called, 40) else ({ T.called with b := T.b.take n.toNat, safe := n }, 0)) := by simp [TS.trim, hd', hr]
      have E := hid e
      have c0 := h.cells.1
      have h0 : 0 ≤ n := by omega
      have h1 : n ≤ (T.b.length : Int) := by omega
      clear e hd' hr
      obtain ⟨m, rfl⟩ := Int.eq_ofNat_of_zero_le h0
      have h0' : ¬ (m : Int) < 0 := by omega
      have h1' : ¬ (T.b.length : Int) < (m : Int) := by omega
      have hml : m ≤ T.b.length := by omega
      have hmc : m ≤ c := by omega
      have HC3 := hid hc3
      have HC1 := hid hc1
      have HC2 := hid hc2
      clear h0 h1 hc4 hc3 h hc1 hc2
      by_cases hl : (T.left == 0) = true
      · have L := hid hl
        clear hl
        go_enter Try.func26, Try.ntmps26
        go_wp2_with (first | (go_at_call 37; refine (call_any _ _ _ _ _ H.out HOK.out).mono ?_; rintro e w1 ⟨rfl, h3, h4⟩; rw [L.out]; have H3 := hid h3; have H4 := hid h4; clear h3 h4))
        go_ret
        exact ⟨by rw [E.out, if_pos L.out]; rfl, _, by rw [E.out, if_pos L.out]; exact H3.out.mono (fun k _ hk => .inl hk), H4.out.mono (fun i hi _ => by subst hi; exact H.out.inS)⟩
      · have hl' : (T.left == 0) = false := by simpa using hl
        have L := hid hl'
        clear hl hl'
        have L' : ¬ (T.left == 0) = true := by rw [L.out]; decide
        have LL := hid L'
        clear L'
        obtain ⟨i5, hi5, _, hz5, _⟩ := info_parts info5
        have hcut := cut_to (P := Try.prog) 22 5 .i64 Try.underlying22 hi5 A T.b.length c m hmc
        clear hi5 hz5
        go_enter Try.func26, Try.ntmps26
        go_wp2_with (first | (go_at_call 37; refine (call_any _ _ _ _ _ H.out HOK.out).mono ?_; rintro e w1 ⟨rfl, h3, h4⟩; rw [L.out]; have H3 := hid h3; have H4 := hid h4; have c0 := h3.cells.1; clear h3 h4) | (go_at_call 38; refine (clone_any A (T.b.take m) m c S w1 HC3.out (by rw [List.length_take]; omega) hmc ?cs (by have := HOK.out.r1; have := HOK.out.r0; omega)).mono ?_; (case cs => obtain ⟨A', c', hv, _, _, _, hs⟩ := own_sees H3.out.row; injection hv with hA' _ _; subst hA'; rw [u8s_take]; exact (hs.take m).mono (fun k hk => H3.out.rowS k hk)); rintro e w2 ⟨v2, rfl, h5, h6, h7⟩; obtain ⟨A2, c2, hv2, _⟩ := own_sees h5; subst hv2; have H5 := hid h5; have H6 := hid h6; have H7 := hid h7; have f0 : w2.frozen? ⟨g, 0, none⟩ = false := freeAt (h6.blk H3.out.blk (fun h => h)) 0; have c02 := (show w2.cell? ⟨g, 0, none⟩ = some (.slice A T.b.length c) from by rw [cellAt (h6.blk H3.out.blk (fun h => h))]; rfl); have f1 : w2.frozen? ⟨g, 1, none⟩ = false := freeAt (h6.blk H3.out.blk (fun h => h)) 1; have c12 := (show w2.cell? ⟨g, 1, none⟩ = some (.int .i64 T.safe) from by rw [cellAt (h6.blk H3.out.blk (fun h => h))]; rfl); clear h5 h6 h7))
        go_ret
        have P := put_row (b := T.b.take m) (N := w.heap.size) H3.out (H6.out.mono (fun _ h => h.elim)) (by rw [List.length_take, Nat.min_eq_left hml]; exact H5.out) (fun k hk => .inr (H7.out k hk)) H4.out.size
        have hc : Chg (fun k => k = g) (w2.setCell ⟨g, 0, none⟩ (.slice A2 m c2)) ((w2.setCell ⟨g, 0, none⟩ (.slice A2 m c2)).setCell ⟨g, 1, none⟩ (.int .i64 m)) := (Chg.refl (fun k => k = g) _).set (fun _ => rfl) _
        refine ⟨by rw [E.out, if_neg LL.out]; rfl, .slice A2 m c2, by rw [E.out, if_neg LL.out]; exact ⟨P.1.inS, blk_set P.1.blk 1 _, hc.own P.1.row (fun k hk => by rintro rfl; exact P.1.ne hk), P.1.rowS⟩, ?_⟩
        exact ((H4.out.mono (fun i hi _ => by subst hi; exact H.out.inS)).trans P.2 (fun _ h _ => h)).trans hc (fun i hi _ => by subst hi; exact H.out.inS)

set_option maxHeartbeats 1000000 in
theorem bytes_any (S : Nat → Prop) (g : Nat) (v : Value) (T : TS) (w : World) (h : TapeAt w S g v T) (hl : T.b.length ≤ 281474976710656) :
    Calls Try.prog 17 #[.pointer (some ⟨g, 0, none⟩)] w fun e w' => ∃ c, e = .returned (.slice (some ⟨w.heap.size, 0, none⟩) T.b.length c) ∧ w'.ownsRow 0 5 1 (.slice (some ⟨w.heap.size, 0, none⟩) T.b.length c) T.b.length (u8s T.b) ∧ Chg (fun _ => False) w w' := by
  have H := hid h
  obtain ⟨A, c, hv, hc1, hc2, hc3, hc4⟩ := own_sees h.row
  subst hv
  have c0 := h.cells.1
  have hmk := fun W => make_run (P := Try.prog) 22 5 (.int .u8 0) 1 Try.underlying22 info5 rfl (by decide) T.b.length (by omega) W
  have HM := hid (own_made w 5 (.int .u8 0) T.b.length hl)
  have hb := blk_alloc h.blk (.cells (madeCells #[.int .u8 0] T.b.length) 5)
  have HSE := hid (hc4.chg ((Chg.refl (fun _ => False) w).alloc (.cells (madeCells #[.int .u8 0] T.b.length) 5)) (fun _ _ h => h))
  have c0' : (w.alloc (.cells (madeCells #[.int .u8 0] T.b.length) 5)).cell? ⟨g, 0, none⟩ = some (.slice A T.b.length c) := by rw [cellAt hb]; rfl
  clear h hc1 hc2 hc3 hc4 hb hl
  go_enter Try.func17, Try.ntmps17
  go_wp2_with (first | ((with_reducible refine at_dst (N := 15) rfl ?_); refine copy_list _ rfl (.tmp 10) (.tmp 14) 22 5 rfl Try.underlying22 (by kernel_rfl) w.heap.size T.b.length T.b.length _ rfl HM.out A c (u8s T.b) _ rfl (u8s_length _) HSE.out (u8s_one _) ?_; intro w' h1 h2; have G1 := hid h1; have G2 := hid h2; clear h1 h2))
  go_ret
  exact ⟨_, rfl, G1.out, ((Chg.refl (fun _ => False) w).alloc _).trans G2.out (fun i hi hlt => by omega)⟩

end Go.Proofs.Ytmllakklhbmboaa.T
