/- Histories of tickets: calls that were OK, when they began and ended, and their values. Plain Lean. -/
import Derived.Test.YthghghoikaincaaTkX
namespace Go.Proofs.Ythghghoikaincaa
open Go.RowKit

structure SpT where
  (b e v : Int)
def hitN (kind : Int) (n : NtT) : Bool := n.kind == 3 && n.qc == 0 && n.rk == kind
def valN (kind : Int) (n : NtT) : Int := if kind = 8 then n.rv else n.qv
def begN (th seq : Int) (n : NtT) : Bool := n.kind == 1 && n.th == th && n.seq == seq
/-- the values of calls of a kind that were OK, among the first k notes -/
def takenTo (N : List NtT) (kind : Int) : Nat → List Int
  | 0 => []
  | k + 1 => takenTo N kind k ++ (match N[k]? with | some n => if hitN kind n = true then [valN kind n] else [] | none => [])
/-- when a call began -/
def begTo (N : List NtT) (th seq : Int) : Nat → Int
  | 0 => 0
  | k + 1 => match N[k]? with | some n => if begN th seq n = true then n.time else begTo N th seq k | none => begTo N th seq k
def spTo (N : List NtT) (kind : Int) : Nat → List SpT
  | 0 => []
  | k + 1 => spTo N kind k ++ (match N[k]? with | some n => if hitN kind n = true then [⟨begTo N n.th n.seq k, n.time, valN kind n⟩] else [] | none => [])
def begL (N : List NtT) (th seq : Int) : Int := begTo N th seq N.length
def spL (N : List NtT) (kind : Int) : List SpT := spTo N kind N.length
def takenL (N : List NtT) (kind : Int) : List Int := takenTo N kind N.length
theorem taken_sp (N : List NtT) (kind : Int) (k : Nat) : takenTo N kind k = (spTo N kind k).map SpT.v := by
  induction k with
  | zero => rfl
  | succ k ih =>
    unfold takenTo spTo
    rw [List.map_append, ← ih]
    congr 1
    cases N[k]? with
    | none => rfl
    | some n => dsimp only; split <;> rfl
theorem takenTo_len (N : List NtT) (kind : Int) (k : Nat) : (takenTo N kind k).length ≤ k := by
  induction k with
  | zero => exact Nat.le_refl _
  | succ k ih =>
    unfold takenTo
    rw [List.length_append]
    cases N[k]? with
    | none => simp; omega
    | some n => dsimp only; split <;> simp <;> omega
theorem begTo_app (N : List NtT) (x : NtT) (th seq : Int) (k : Nat) (h : k ≤ N.length) : begTo (N ++ [x]) th seq k = begTo N th seq k := by
  induction k with
  | zero => rfl
  | succ k ih =>
    unfold begTo
    rw [List.getElem?_append_left (by omega), ih (by omega)]
theorem spTo_app (N : List NtT) (x : NtT) (kind : Int) (k : Nat) (h : k ≤ N.length) : spTo (N ++ [x]) kind k = spTo N kind k := by
  induction k with
  | zero => rfl
  | succ k ih =>
    unfold spTo
    rw [List.getElem?_append_left (by omega), ih (by omega)]
    congr 1
    cases N[k]? with
    | none => rfl
    | some n => dsimp only; rw [begTo_app _ _ _ _ _ (by omega)]
theorem begL_app (N : List NtT) (x : NtT) (th seq : Int) : begL (N ++ [x]) th seq = if begN th seq x = true then x.time else begL N th seq := by
  unfold begL
  rw [List.length_append, List.length_singleton]
  show begTo (N ++ [x]) th seq (N.length + 1) = _
  rw [begTo, List.getElem?_append_right (Nat.le_refl _), Nat.sub_self, begTo_app _ _ _ _ _ (Nat.le_refl _)]
  rfl
theorem spL_app (N : List NtT) (x : NtT) (kind : Int) : spL (N ++ [x]) kind = spL N kind ++ if hitN kind x = true then [⟨begL N x.th x.seq, x.time, valN kind x⟩] else [] := by
  unfold spL
  rw [List.length_append, List.length_singleton]
  show spTo (N ++ [x]) kind (N.length + 1) = _
  rw [spTo, List.getElem?_append_right (Nat.le_refl _), Nat.sub_self, spTo_app _ _ _ _ (Nat.le_refl _)]
  dsimp only [List.getElem?_cons_zero]
  rw [begTo_app _ _ _ _ _ (Nat.le_refl _)]
  rfl
/-- a note that is no OK return -/
theorem spL_no {N : List NtT} {x : NtT} {kind : Int} (h : hitN kind x = false) : spL (N ++ [x]) kind = spL N kind := by
  rw [spL_app, h]; simp
theorem begL_no {N : List NtT} {x : NtT} {th seq : Int} (h : begN th seq x = false) : begL (N ++ [x]) th seq = begL N th seq := by
  rw [begL_app, h]; simp
end Go.Proofs.Ythghghoikaincaa
