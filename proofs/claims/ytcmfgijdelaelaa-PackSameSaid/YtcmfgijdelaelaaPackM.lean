
/- Numbers of six bytes as plain data. No program in sight. -/

namespace Go.Proofs.Ytcmfgijdelaelaa.Pa

set_option linter.unusedVariables false

/-- The six bytes of a number that is one more, from the greatest on. -/
def six (m : Nat) : List UInt8 := [UInt8.ofNat (m / 2 ^ 40), UInt8.ofNat (m / 2 ^ 32), UInt8.ofNat (m / 2 ^ 24), UInt8.ofNat (m / 2 ^ 16), UInt8.ofNat (m / 2 ^ 8), UInt8.ofNat m]
theorem six_len (m : Nat) : (six m).length = 6 := rfl
def val (l : List UInt8) : Nat := l.foldl (fun v x => v * 256 + x.toNat) 0
theorem toNat_ofNat (m : Nat) : (UInt8.ofNat m).toNat = m % 256 := by simp
theorem val_six {m : Nat} (h : m < 2 ^ 48) : val (six m) = m := by
  simp only [val, six, List.foldl_cons, List.foldl_nil, toNat_ofNat]
  omega
theorem val_lt : ∀ {l : List UInt8}, l.length = 6 → val l < 2 ^ 48
  | [a, b, c, d, e, f], _ => by
    have h := fun x : UInt8 => x.toNat_lt
    have ha := h a; have hb := h b; have hc := h c; have hd := h d; have he := h e; have hf := h f
    simp only [val, List.foldl_cons, List.foldl_nil]
    omega
theorem six_val : ∀ {l : List UInt8}, l.length = 6 → six (val l) = l
  | [a, b, c, d, e, f], _ => by
    have h := fun x : UInt8 => x.toNat_lt
    have ha := h a; have hb := h b; have hc := h c; have hd := h d; have he := h e; have hf := h f
    have key : ∀ {m : Nat} {x : UInt8}, m % 256 = x.toNat → UInt8.ofNat m = x := fun {m x} e => UInt8.toNat_inj.1 (by rw [toNat_ofNat]; exact e)
    simp only [val, six, List.foldl_cons, List.foldl_nil]
    refine List.cons_eq_cons.2 ⟨key (by omega), List.cons_eq_cons.2 ⟨key (by omega), List.cons_eq_cons.2 ⟨key (by omega), List.cons_eq_cons.2 ⟨key (by omega), List.cons_eq_cons.2 ⟨key (by omega), List.cons_eq_cons.2 ⟨key (by omega), rfl⟩⟩⟩⟩⟩⟩
end Go.Proofs.Ytcmfgijdelaelaa.Pa
