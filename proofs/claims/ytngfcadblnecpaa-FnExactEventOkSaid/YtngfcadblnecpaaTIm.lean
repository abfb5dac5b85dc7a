/- An interpreter of loaded Go code on trees, for every program: operations that make nothing are sound, last part. No condition; no program is in sight. -/
import Derived.Test.YtngfcadblnecpaaTIl
namespace Go.TI
open Go Go.RowKit
set_option linter.unusedSimpArgs false
set_option linter.unusedVariables false

section
variable {w0 : World} {FA UA : List Nat} {N : Nat} {w : World} {a : Act} {E : St} {blk : Root → Nat} {FS US : Root → List Nat} {P : Program}

theorem ok_index (h : Rel w0 FA UA N w a E blk FS US) {o : Oper} {t : TypeId} {x i : Operand} (ho : o.op = .index t x i) {s : SV} (hp : pureOp P E o = some s) : PureOk P w a E blk FS US o s := by
  simp only [pureOp, ho] at hp
  split at hp
  · rename_i str k n ht hx hi
    split at hp
    · rename_i hc
      injection hp with hp
      subst hp
      have h1 := cell1_str h hx
      have h2 := cell1_int h hi
      have hlt : n.toNat < str.size := by omega
      refine scalar_ok rfl (fun w2 => ?_)
      have hg : str[n.toNat]? = some str[n.toNat] := by simp [hlt]
      simp only [execOp, ho, h1, h2, Instr.index]
      simp [run_underlying ht, asIntOf, hc.1, hg, pureOp.bt, hlt]
    · cases hp
  · cases hp

theorem ok_slice (h : Rel w0 FA UA N w a E blk FS US) {o : Oper} {t : TypeId} {x : Operand} {lo hi : Option Operand} (ho : o.op = .slice t x lo hi none) {s : SV} (hp : pureOp P E o = some s) : PureOk P w a E blk FS US o s := by
  simp only [pureOp, ho] at hp
  split at hp
  · rename_i str ht hx
    have h1 := cell1_str h hx
    split at hp
    · rename_i k1 l k2 u hl hu
      split at hp
      · rename_i hc
        injection hp with hp
        subst hp
        obtain ⟨hc0, hc1, hc2⟩ := hc
        refine scalar_ok rfl (fun w2 => ?_)
        have hL : lo = none ∧ l = 0 ∨ ∃ ol, lo = some ol ∧ a.eval ol = .int k1 l := by
          cases lo with
          | none => simp at hl; exact .inl ⟨rfl, hl.2.symm⟩
          | some ol => exact .inr ⟨ol, rfl, cell1_int h hl⟩
        have hU : hi = none ∧ u = (str.size : Int) ∨ ∃ oh, hi = some oh ∧ a.eval oh = .int k2 u := by
          cases hi with
          | none => simp at hu; exact .inl ⟨rfl, hu.2.symm⟩
          | some oh => exact .inr ⟨oh, rfl, cell1_int h hu⟩
        obtain ⟨u', rfl⟩ := Int.eq_ofNat_of_zero_le (by omega : 0 ≤ u)
        obtain ⟨l', rfl⟩ := Int.eq_ofNat_of_zero_le hc0
        have e1 : l' ≤ u' := by omega
        have e2 : u' ≤ str.size := by omega
        rcases hL with ⟨rfl, hl0⟩ | ⟨ol, rfl, hol⟩ <;> rcases hU with ⟨rfl, hu0⟩ | ⟨oh, rfl, hoh⟩
        · have : l' = 0 := by omega
          have : u' = str.size := by omega
          subst_vars
          simp [execOp, ho, h1, Instr.sliceAt, run_underlying ht, Instr.slice, Instr.sliceBounds]
        · have : l' = 0 := by omega
          subst this
          simp [execOp, ho, h1, Instr.sliceAt, run_underlying ht, Instr.slice, Instr.sliceBounds, Instr.sliceBound, hoh, asIntOf, e2]
        · have : u' = str.size := by omega
          subst this
          simp [execOp, ho, h1, Instr.sliceAt, run_underlying ht, Instr.slice, Instr.sliceBounds, Instr.sliceBound, hol, asIntOf, e1]
        · simp [execOp, ho, h1, Instr.sliceAt, run_underlying ht, Instr.slice, Instr.sliceBounds, Instr.sliceBound, hol, hoh, asIntOf, e1, e2]
      · cases hp
    · cases hp
  · cases hp

theorem ok_builtin (h : Rel w0 FA UA N w a E blk FS US) {o : Oper} {c : Call} {b : Builtin} (ho : o.op = .call c) (hb : c.callee = .builtin b) {s : SV} (hp : builtinPure P E b c.args.toList c.argTypes.toList = some s) : PureOk P w a E blk FS US o s := by
  obtain ⟨callee, args, types⟩ := c
  simp only at hb
  subst hb
  simp only at hp
  unfold builtinPure at hp
  split at hp
  · rename_i x t hx0 ht0
    obtain rfl : args = #[x] := by cases args; simp_all
    obtain rfl : types = #[t] := by cases types; simp_all
    split at hp
    · rename_i ht
      split at hp
      · rename_i str hx
        injection hp with hp
        subst hp
        have h1 := cell1_str h hx
        refine scalar_ok rfl (fun w2 => ?_)
        simp [execOp, ho, resolve, invoke, builtin, Builtin.len_, h1, run_underlying ht, goInt]
      · cases hp
    · rename_i e ht
      split at hp
      · rename_i sz cells hs
        split at hp
        · rename_i hpos
          injection hp with hp
          subst hp
          unfold St.sliceCells at hs
          split at hs
          · rename_i r q j href
            split at hs
            · rename_i o' e' sz' cells' hpl
              simp only [Option.some.injEq, Prod.mk.injEq] at hs
              obtain ⟨rfl, rfl⟩ := hs
              have h2 := ref_rel h href
              obtain ⟨F, U, h3, _, _⟩ := place_sl h hpl h2
              obtain ⟨A, m, c, hv, hm, _⟩ := rep_sl_form h3
              refine scalar_ok (v := .int .i64 m) ?_ (fun w2 => ?_)
              · simp only [TV.toV]
                rw [← hm, Nat.mul_div_cancel _ hpos]
              · simp [execOp, ho, resolve, invoke, builtin, Builtin.len_, hv, run_underlying ht, goInt]
            · cases hs
          · cases hs
        · cases hp
      · cases hp
    · cases hp
  · rename_i x y t t' hx0 ht0
    obtain rfl : args = #[x, y] := by cases args; simp_all
    obtain rfl : types = #[t, t'] := by cases types; simp_all
    split at hp
    · rename_i k m k' n hx hy
      injection hp with hp
      subst hp
      have h1 := cell1_int h hx
      have h2 := cell1_int h hy
      refine scalar_ok rfl (fun w2 => ?_)
      simp [execOp, ho, resolve, invoke, builtin, Builtin.min_, h1, h2, Builtin.min2]
    · cases hp
  · rename_i x y t t' hx0 ht0
    obtain rfl : args = #[x, y] := by cases args; simp_all
    obtain rfl : types = #[t, t'] := by cases types; simp_all
    split at hp
    · rename_i k m k' n hx hy
      injection hp with hp
      subst hp
      have h1 := cell1_int h hx
      have h2 := cell1_int h hy
      refine scalar_ok rfl (fun w2 => ?_)
      simp [execOp, ho, resolve, invoke, builtin, Builtin.max_, h1, h2, Builtin.max2]
    · cases hp
  · cases hp

theorem pure_sound (h : Rel w0 FA UA N w a E blk FS US) {o : Oper} {s : SV} (hp : pureOp P E o = some s) : PureOk P w a E blk FS US o s := by
  have hp0 := hp
  unfold pureOp at hp
  split at hp
  · rename_i ho; exact ok_move h ho hp0
  · rename_i ho; exact ok_assign h ho hp0
  · rename_i ho; exact ok_nilCheck h ho hp0
  · rename_i ho; exact ok_pick h ho hp0
  · rename_i ho; exact ok_binOp h ho hp0
  · rename_i ho; exact ok_unOp h ho hp0
  · rename_i ho; exact ok_convert h ho hp0
  · rename_i ho; exact ok_fieldAddr h ho hp0
  · rename_i ho; exact ok_indexAddr h ho hp0
  · rename_i ho; exact ok_load h ho hp0
  · rename_i ho; exact ok_index h ho hp0
  · rename_i ho; exact ok_slice h ho hp0
  · rename_i ho
    split at hp
    · rename_i hb; exact ok_builtin h ho hb hp
    · cases hp
  · cases hp

/-- A step of the kind. -/
theorem pure_step (h : Rel w0 FA UA N w a E blk FS US) {o : Oper} {s : SV} {d : Nat} (hp : pureOp P E o = some s) (hd : d < N) :
    ∃ v, YieldsAt P FS US w a E o v ∧ ∃ U, Rel w0 FA UA N w (a.put (some d) v) (E.put (some d) s) blk (upd FS (.slot d) []) (upd US (.slot d) U) := by
  obtain ⟨v, U, h1, h2, h3⟩ := pure_sound h hp
  exact ⟨v, h1, U, h.put hd h2 (fits_copy h h3 _)⟩
end
end Go.TI
