/- Package tickets: a queue in plain words, and how it lies in memory. -/
import Derived.Test.YthghghoikaincaaTkO
namespace Go.Proofs.Ythghghoikaincaa
open Go.RowKit

/-- a thread -/
structure CmT where
  (pc seq value pos tri : Int)
/-- a note: its request and its result flat -/
structure NtT where
  (kind th seq time rk rv qs qc qv : Int)
structure QT where
  (size tries time : Int)
  L : List Int
  T : List CmT
  N : List NtT

def QT.setT (q : QT) (t : Nat) (x : CmT) : QT := { q with T := q.T.set t x }
def isPut (x : CmT) : Bool := x.pc == 1 || x.pc == 2
def noteQ (q : QT) (kind : Int) (t : Nat) (x : CmT) (qs qc qv : Int) : QT :=
  { q with N := q.N ++ [⟨kind, t, x.seq, q.time, if isPut x = true then 8 else 9, if isPut x = true then x.value else 0, qs, qc, qv⟩] }
def endsQ (q : QT) (t : Nat) (x : CmT) (code v : Int) : QT := (noteQ q 3 t x x.seq code v).setT t ⟨0, x.seq, 0, 0, 0⟩
def againQ (q : QT) (t : Nat) (x : CmT) (pc : Int) : QT :=
  if x.tri + 1 = q.tries then endsQ (q.setT t { x with tri := x.tri + 1, pc := pc }) t { x with tri := x.tri + 1, pc := pc } 6 0 else q.setT t { x with tri := x.tri + 1, pc := pc }
def QT.word (q : QT) (k : Nat) : Int := q.L.getD k 0
def QT.setL (q : QT) (k : Nat) (z : Int) : QT := { q with L := q.L.set k z }
def ticketQ (q : QT) (t : Nat) (x : CmT) (word : Nat) (next : Int) : QT :=
  if q.size ≤ q.word word then endsQ (q.setL word (q.word word + 1)) t x 6 0 else (q.setL word (q.word word + 1)).setT t { x with pos := q.word word, pc := next }
/-- where a thread's cell is -/
def CmT.cell (x : CmT) : Nat := 2 + x.pos.toNat
def stepQ (q : QT) (t : Nat) (x : CmT) : QT :=
  if x.pc = 1 then ticketQ q t x 1 2
  else if x.pc = 2 then (if q.word x.cell = 0 then endsQ (q.setL x.cell (x.value + 2)) t x 0 0 else againQ q t x 1)
  else if x.pc = 3 then ticketQ q t x 0 4
  else if x.pc = 4 then (if q.word x.cell = 0 then (q.setL x.cell 1).setT t { x with pc := 6 } else q.setT t { x with pc := 5 })
  else if x.pc = 5 then endsQ q t x 0 (q.word x.cell - 2)
  else if x.pc = 6 then (if q.word 1 ≤ x.pos + 1 then endsQ q t x 10 0 else againQ q t x 3)
  else q
def QT.tick (q : QT) : QT := { q with time := q.time + 1 }
def pickQ (q : QT) (t : Int) : QT := if t < 0 then q else match q.T[t.toNat]? with | none => q | some x => stepQ q.tick t.toNat x
def beginQ (q : QT) (t : Int) (y : CmT) : QT :=
  if t < 0 then q else match q.T[t.toNat]? with
  | none => q
  | some x => if x.pc ≠ 0 ∨ 1048575 ≤ x.seq then q else noteQ (q.setT t.toNat { y with seq := x.seq + 1 }).tick 1 t.toNat { y with seq := x.seq + 1 } 0 0 0
def putQ (q : QT) (t v : Int) : QT := if v < 0 ∨ 4294967295 < v then q else beginQ q t ⟨1, 0, v, 0, 0⟩
def takeQ (q : QT) (t : Int) : QT := beginQ q t ⟨3, 0, 0, 0, 0⟩
/-- what a call that begins answers -/
def beginE (q : QT) (t : Int) : Int := if t < 0 then 1 else match q.T[t.toNat]? with | none => 1 | some x => if x.pc ≠ 0 ∨ 1048575 ≤ x.seq then 13 else 0
def newQ (size threads tries : Int) : QT := ⟨size, tries, 0, List.replicate (size.toNat + 2) 0, List.replicate threads.toNat ⟨0, 0, 0, 0, 0⟩, []⟩

/-! ### in memory -/
def cmC (x : CmT) : List Value := [.int .i64 x.pc, .int .i64 x.seq, .int .i64 x.value, .int .i64 x.pos, .int .i64 x.tri]
theorem cmC_len (x : CmT) : (cmC x).length = 5 := rfl
theorem cmC_one (x : CmT) : ∀ u ∈ cmC x, u.oneCell' = true := by intro u hu; simp [cmC] at hu; rcases hu with rfl | rfl | rfl | rfl | rfl <;> rfl
theorem info_cm : (Try.prog.info? 35).map (fun i => (i.zero, i.size, i.bytes)) = some (some (.agg #[.int .i64 0, .int .i64 0, .int .i64 0, .int .i64 0, .int .i64 0]), 5, 40) := by kernel_rfl
def ntC (n : NtT) : List Value := [.int .i64 n.kind, .int .i64 n.th, .int .i64 n.seq, .int .i64 n.time, .int .i64 n.rk, .int .i64 0, .int .i64 n.rv, .bool false, .slice none 0 0, .int .i64 n.qs, .int .i64 0, .int .i64 n.qc, .int .i64 n.qv]
theorem ntC_len (n : NtT) : (ntC n).length = 13 := rfl
theorem ntC_one (n : NtT) : ∀ u ∈ ntC n, u.oneCell' = true := by intro u hu; simp [ntC] at hu; rcases hu with rfl | rfl | rfl | rfl | rfl | rfl | rfl | rfl | rfl | rfl | rfl | rfl | rfl <;> rfl
theorem info_nt : (Try.prog.info? 61).map (fun i => (i.zero, i.size, i.bytes)) = some (some (.agg #[.int .i64 0, .int .i64 0, .int .i64 0, .int .i64 0, .int .i64 0, .int .i64 0, .int .i64 0, .bool false, .slice none 0 0, .int .i64 0, .int .i64 0, .int .i64 0, .int .i64 0]), 13, 120) := by kernel_rfl
theorem MemV.weak {w : World} {base base' g : Nat} {vl vg vc : Value} {L : List Int} {G : List Acc} {C : List Int} {kp : Bool} (h : MemV w base g vl vg vc L G C kp) (hb : base' ≤ base) : MemV w base' g vl vg vc L G C kp :=
  ⟨h.blk, h.words.weak hb, h.log.weak hb, h.counts.weak hb, Nat.le_trans hb h.low⟩
/-- a queue at block gq: its memory at gm, its slices' values -/
structure QV (w : World) (base gq gm : Nat) (vw vg vc vt vn : Value) (q : QT) (C : List Int) : Prop where
  blk : Blk w gq 54 #[.pointer (some ⟨gm, 0, none⟩), .int .i64 q.size, .int .i64 q.tries, vt, vn, .int .i64 q.time]
  mem : MemV w base gm vw vg vc q.L [] C false
  men : OwnF w base 35 5 cmC vt q.T
  notes : OwnF w base 61 13 ntC vn q.N
  low : base ≤ gq
  c64 : C.length ≤ 64
/-- the blocks that a queue calls its own -/
def QOwns (gq gm : Nat) (vw vg vc vt vn : Value) (b : Nat) : Prop := b = gq ∨ b = gm ∨ vw.ownBlock = some b ∨ vg.ownBlock = some b ∨ vc.ownBlock = some b ∨ vt.ownBlock = some b ∨ vn.ownBlock = some b
theorem QV.ext {w w' : World} {base gq gm : Nat} {vw vg vc vt vn : Value} {q : QT} {C : List Int} (h : QV w base gq gm vw vg vc vt vn q C) (hb : Below w.heap.size w w') : QV w' base gq gm vw vg vc vt vn q C :=
  ⟨h.blk.extW hb, h.mem.extW hb, h.men.extW hb, h.notes.extW hb, h.low, h.c64⟩
/-- the queue at gq is q; its own blocks are among those that S names -/
def QAt (w : World) (base gq : Nat) (S : Nat → Prop) (q : QT) : Prop := ∃ gm vw vg vc vt vn C, QV w base gq gm vw vg vc vt vn q C ∧ ∀ b, QOwns gq gm vw vg vc vt vn b → S b
/-- what a call leaves: the queue is q', its blocks were its own or are new; all other blocks are as they were -/
def QTo (w : World) (base gq : Nat) (S : Nat → Prop) (q' : QT) (w' : World) : Prop := QAt w' base gq (fun b => S b ∨ w.heap.size ≤ b) q' ∧ (∀ b, b < w.heap.size → ¬ S b → w'.heap[b]? = w.heap[b]?) ∧ Below base w w'
theorem QAt.ext {w w' : World} {base gq : Nat} {S : Nat → Prop} {q : QT} (h : QAt w base gq S q) (hb : Below w.heap.size w w') : QAt w' base gq S q := by
  obtain ⟨gm, vw, vg, vc, vt, vn, C, h, hs⟩ := h
  exact ⟨gm, vw, vg, vc, vt, vn, C, h.ext hb, hs⟩
theorem QAt.mono {w : World} {base gq : Nat} {S S' : Nat → Prop} {q : QT} (h : QAt w base gq S q) (hs : ∀ b, S b → S' b) : QAt w base gq S' q := by
  obtain ⟨gm, vw, vg, vc, vt, vn, C, h, hs'⟩ := h
  exact ⟨gm, vw, vg, vc, vt, vn, C, h, fun b hb => hs b (hs' b hb)⟩
end Go.Proofs.Ythghghoikaincaa
