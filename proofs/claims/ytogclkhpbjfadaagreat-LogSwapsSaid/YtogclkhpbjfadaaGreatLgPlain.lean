/- A log of frames in segments on a disk, as plain data: what each call makes of it. -/
import Derived.Test.YtogclkhpbjfadaaGreatDkP
import Derived.Test.YtogclkhpbjfadaaGreatFrPlain
namespace Go.Proofs.YtogclkhpbjfadaaGreat
open Go.RowKit
set_option linter.unusedVariables false
set_option maxRecDepth 100000

structure ManD where
  ver : Nat
  next : Nat
  segs : List Nat
deriving DecidableEq, Inhabited
structure LogD where
  size : Nat
  m : ManD
  loose : Bool
deriving DecidableEq, Inhabited

def nmHead : ByteArray := ⟨#[109]⟩
def nmFresh : ByteArray := ⟨#[109, 46, 110, 101, 119]⟩
def dig (n k : Nat) : UInt8 := UInt8.ofNat (48 + n / 10 ^ k % 10)
def segName (s : Nat) : ByteArray := if s < 1 ∨ 1000000 ≤ s then ByteArray.empty else ⟨#[115, dig s 5, dig s 4, dig s 3, dig s 2, dig s 1, dig s 0]⟩

/-- Numbers that go up, each below a bound. -/
def upB (b : Nat) : Nat → List Nat → Bool
  | _, [] => true
  | was, s :: r => decide (was < s ∧ s < b) && upB b s r
def mayM (m : ManD) : Bool := decide (1 ≤ m.ver ∧ m.ver ≤ 3 ∧ 1 ≤ m.segs.length ∧ m.segs.length ≤ 64 ∧ 1 ≤ m.next ∧ m.next ≤ 1000000) && upB m.next 0 m.segs
def manBody (m : ManD) : List UInt8 := be m.next 4 ++ be m.segs.length 2 ++ (m.segs.map (fun s => be s 4)).flatten
def manFr (m : ManD) : FrD := ⟨100, m.ver, manBody m⟩
def manEnc (m : ManD) : List UInt8 × Int := if mayM m then (frBytes (manFr m), 0) else ([], 1)

/-- One thing behind the other, up to the first error. -/
def thenD {σ : Type} (r : σ × Int) (f : σ → σ × Int) : σ × Int := if r.2 = 0 then f r.1 else r
def clearD (n : ByteArray) (d : DiskD) : DiskD × Int := if (nmAt d.now n).isSome then dRemove d n else (d, 0)
def beginD (s : Nat) (d : DiskD) : DiskD × Int := thenD (clearD (segName s) d) (fun d => dAppend d (segName s) [])
def freshD (m : ManD) (d : DiskD) : DiskD × Int :=
  thenD (thenD (thenD (clearD nmFresh d) (fun d => dAppend d nmFresh (frBytes (manFr m)))) (fun d => dSync d nmFresh)) (fun d => dRename d nmFresh nmHead)
/-- A manifest is written: does it count, and what went wrong. -/
def commitD (m : ManD) (d : DiskD) : DiskD × Bool × Int :=
  if mayM m = false then (d, false, 1)
  else if (freshD m d).2 ≠ 0 then ((freshD m d).1, false, (freshD m d).2)
  else ((dSyncDir (freshD m d).1).1, true, (dSyncDir (freshD m d).1).2)
def sized (n : Int) : Nat := (max 16 (min n 1048576)).toNat
def firstM (v : Nat) : ManD := ⟨v, 2, [1]⟩
def createD (v size : Int) (d : DiskD) : DiskD × Option LogD × Int :=
  if v < 1 ∨ 3 < v then (d, none, 10)
  else if (nmAt d.now nmHead).isSome then (d, none, 12)
  else
    let r := thenD (thenD (beginD 1 d) (fun d => dSync d (segName 1))) (fun d => ((commitD (firstM v.toNat) d).1, (commitD (firstM v.toNat) d).2.2))
    if r.2 ≠ 0 then (r.1, none, r.2) else (r.1, some ⟨sized size, firstM v.toNat, false⟩, 0)

abbrev DL := DiskD × LogD
def lastS (l : LogD) : ByteArray := segName (l.m.segs.getLastD 0)
def bytesD (d : DiskD) (n : ByteArray) : Nat := ((dRead d n).getD []).length
def fitsL (l : LogD) (have' more : Nat) : Bool := decide (have' = 0 ∨ have' + more ≤ l.size)
def onDisk (f : DiskD → DiskD × Int) (s : DL) : DL × Int := (((f s.1).1, s.2), (f s.1).2)
def settleL (s : DL) : DL × Int :=
  if s.2.loose then (((dSyncDir s.1).1, { s.2 with loose := decide ((dSyncDir s.1).2 ≠ 0) }), (dSyncDir s.1).2) else (s, 0)
def adoptL (m : ManD) (s : DL) : DL × Bool × Int :=
  (((commitD m s.1).1, if (commitD m s.1).2.1 then { s.2 with m := m, loose := decide ((commitD m s.1).2.2 ≠ 0) } else s.2), (commitD m s.1).2.1, (commitD m s.1).2.2)
def turnM (l : LogD) : ManD := ⟨l.m.ver, l.m.next + 1, l.m.segs ++ [l.m.next]⟩
def turnL (s : DL) : DL × Int :=
  if 64 ≤ s.2.m.segs.length then (s, 4) else
  thenD (thenD (thenD (onDisk (fun d => dSync d (lastS s.2)) s) (onDisk (beginD s.2.m.next))) (onDisk (fun d => dSync d (segName s.2.m.next)))) (fun t => ((adoptL (turnM s.2) t).1, (adoptL (turnM s.2) t).2.2))
def appendL (kind : Int) (body : List UInt8) (s : DL) : DL × Int :=
  if putErr kind s.2.m.ver body.length ≠ 0 then (s, putErr kind s.2.m.ver body.length) else
  thenD (thenD (settleL s) (fun t => if fitsL t.2 (bytesD t.1 (lastS t.2)) (frBytes ⟨kind.toNat, s.2.m.ver, body⟩).length then (t, 0) else turnL t))
    (fun t => onDisk (fun d => dAppend d (lastS t.2) (frBytes ⟨kind.toNat, s.2.m.ver, body⟩)) t)
def syncL (s : DL) : DL × Int := thenD (settleL s) (fun t => onDisk (fun d => dSync d (lastS t.2)) t)

/-- A new segment begins with these bytes. -/
def nextD (nx : Nat) (b : List UInt8) (s : DiskD × List Nat × Nat) : (DiskD × List Nat × Nat) × Int :=
  if 64 ≤ s.2.1.length then (s, 4)
  else if (clearD (segName (nx + s.2.1.length)) s.1).2 ≠ 0 then (((clearD (segName (nx + s.2.1.length)) s.1).1, s.2), (clearD (segName (nx + s.2.1.length)) s.1).2)
  else (((dAppend (clearD (segName (nx + s.2.1.length)) s.1).1 (segName (nx + s.2.1.length)) b).1, s.2.1 ++ [nx + s.2.1.length], b.length), (dAppend (clearD (segName (nx + s.2.1.length)) s.1).1 (segName (nx + s.2.1.length)) b).2)
def newest (segs : List Nat) : ByteArray := segName (segs.getLastD 0)
/-- One row more is laid. -/
def rowD (l : LogD) (b : List UInt8) (s : DiskD × List Nat × Nat) : (DiskD × List Nat × Nat) × Int :=
  if s.2.1 = [] then nextD l.m.next b s
  else if fitsL l s.2.2 b.length then (((dAppend s.1 (newest s.2.1) b).1, s.2.1, s.2.2 + b.length), (dAppend s.1 (newest s.2.1) b).2)
  else thenD (((dSync s.1 (newest s.2.1)).1, s.2), (dSync s.1 (newest s.2.1)).2) (nextD l.m.next b)
def rowsD (l : LogD) : List (List UInt8) → (DiskD × List Nat × Nat) → (DiskD × List Nat × Nat) × Int
  | [], s => (s, 0)
  | b :: r, s => thenD (rowD l b s) (rowsD l r)
/-- All rows are laid, and sure. -/
def layD (l : LogD) (rows : List (List UInt8)) (d : DiskD) : (DiskD × List Nat × Nat) × Int :=
  thenD (thenD (rowsD l rows (d, [], 0)) (fun s => if s.2.1 = [] then nextD l.m.next [] s else (s, 0)))
    (fun s => (((dSync s.1 (newest s.2.1)).1, s.2), (dSync s.1 (newest s.2.1)).2))
def dropD : List Nat → DiskD → DiskD
  | [], d => d
  | s :: r, d => dropD r (clearD (segName s) d).1
def removeD : List Nat → DiskD → DiskD
  | [], d => d
  | s :: r, d => removeD r (dRemove d (segName s)).1
/-- What is put in the place of all frames. -/
def swapIn (ver : Nat) (l : LogD) (segs : List Nat) : ManD := ⟨ver, l.m.next + segs.length, segs⟩
def swapL (ver : Nat) (rows : List (List UInt8)) (s : DL) : DL × Int :=
  if (settleL s).2 ≠ 0 then settleL s else
  let t := (settleL s).1
  let r := layD t.2 rows t.1
  if r.2 ≠ 0 then ((dropD r.1.2.1 r.1.1, t.2), r.2) else
  let a := adoptL (swapIn ver t.2 r.1.2.1) (r.1.1, t.2)
  if a.2.2 = 0 then ((removeD t.2.m.segs a.1.1, a.1.2), 0)
  else if a.2.1 then (a.1, a.2.2) else ((dropD r.1.2.1 a.1.1, a.1.2), a.2.2)

/-- Frames are told, up to the first error. -/
def tellAll {σ : Type} (each : σ → FrD → σ × Int) (ver : Nat) : List FrD → σ → σ × Int
  | [], s => (s, 0)
  | f :: r, s => if f.ver ≠ ver then (s, 3) else if (each s f).2 ≠ 0 then each s f else tellAll each ver r (each s f).1
def scanSeg {σ : Type} (each : σ → FrD → σ × Int) (d : DiskD) (m : ManD) (i : Nat) (s : σ) : σ × Nat × Int :=
  match dRead d (segName (m.segs.getD i 0)) with
  | none => (s, 0, 6)
  | some b =>
    if (frScan b).2.2 ≠ 0 ∧ i + 1 < m.segs.length then (s, 0, 3)
    else if (tellAll each m.ver (frScan b).1 s).2 ≠ 0 then ((tellAll each m.ver (frScan b).1 s).1, 0, (tellAll each m.ver (frScan b).1 s).2)
    else ((tellAll each m.ver (frScan b).1 s).1, (frScan b).2.1, 0)
/-- k segments from the ith on. -/
def scanAll {σ : Type} (each : σ → FrD → σ × Int) (d : DiskD) (m : ManD) : Nat → Nat → Nat → σ → σ × Nat × Int
  | 0, _, n, s => (s, n, 0)
  | k + 1, i, _, s => if (scanSeg each d m i s).2.2 ≠ 0 then scanSeg each d m i s else scanAll each d m k (i + 1) (scanSeg each d m i s).2.1 (scanSeg each d m i s).1
def manDec (b : List UInt8) : ManD × Int :=
  if (frTake b).2.2 ≠ 0 then (default, (frTake b).2.2)
  else if (frTake b).2.1 < b.length ∨ (frTake b).1.kind ≠ 100 then (default, 3)
  else if (frTake b).1.ver < 1 ∨ 3 < (frTake b).1.ver then (default, 10)
  else
    let x := (frTake b).1.body
    let k := num ((x.drop 4).take 2)
    let m : ManD := ⟨(frTake b).1.ver, num (x.take 4), (List.range k).map (fun j => num ((x.drop (6 + 4 * j)).take 4))⟩
    if x.length = 6 + 4 * k ∧ mayM m then (m, 0) else (default, 3)
def openL {σ : Type} (each : σ → FrD → σ × Int) (size : Int) (d : DiskD) (s : σ) : σ × DiskD × Option LogD × Int :=
  match dRead d nmHead with
  | none => (s, d, none, 6)
  | some b =>
    if (manDec b).2 ≠ 0 then (s, d, none, (manDec b).2) else
    let m := (manDec b).1
    let l : LogD := ⟨sized size, m, false⟩
    let r := scanAll each d m m.segs.length 0 0 s
    if r.2.2 ≠ 0 then (r.1, d, none, r.2.2) else
    let e := thenD (thenD (if r.2.1 = bytesD d (lastS l) then (d, 0) else dCut d (lastS l) r.2.1) (fun d => dSync d (lastS l))) dSyncDir
    if e.2 ≠ 0 then (r.1, e.1, none, e.2) else (r.1, e.1, some l, 0)
def sizeL (s : DL) : Nat := (s.2.m.segs.map (fun x => bytesD s.1 (segName x))).sum
end Go.Proofs.YtogclkhpbjfadaaGreat
