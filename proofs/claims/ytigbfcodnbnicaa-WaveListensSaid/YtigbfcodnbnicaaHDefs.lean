/- The plain functions that the recordings' package computes, over numbers and lists alone; no condition. -/
import Derived.Test.YtigbfcodnbnicaaX0
namespace Go.Proofs.Ytigbfcodnbnicaa.P

def inR (lo hi : Int) (l : List Int) : Bool := l.all fun v => decide (lo ≤ v) && decide (v ≤ hi)
def sumsq (l : List Int) : Int := (l.map fun v => v * v).sum
def rnd (a b : Int) : Int := if a < 0 then -((2 * (-a) + b) / (2 * b)) else (2 * a + b) / (2 * b)

def wave_samples.f (l : List Int) : Option Bool := if l.length ≤ 200000 then some (inR (-32768) 32767 l) else none
def wave_values.f (l : List Int) : Option Int := if l.length > 200000 then some 5 else if inR (-2147483647) 2147483647 l = true then some 0 else some 2
def wave_Energy.f (l : List Int) : Option (Int × Int) := if l.length > 200000 then some (0, 5) else if inR (-65536) 65535 l = true then some (sumsq l, 0) else some (0, 2)
def slices_Clone_int_int.f (l : List Int) : Option (List Int) := if l.length ≤ 17592186044000 then some l else none

/-- The weight of an element of a window: its distance from the middle is d, in halves. -/
def winW (kind n d : Int) : Int := if kind = 1 then 4096 else if kind = 2 then rnd (4096 * (n + 1 - max d (-d))) (n + 1) else rnd (4096 * ((n + 1) * (n + 1) - d * d)) ((n + 1) * (n + 1))
def winList (kind n : Int) : List Int := (List.range n.toNat).map fun (i : Nat) => winW kind n (2 * (i : Int) - (n - 1))
def wave_Window.f (kind n : Int) : Option (List Int × Int) := if 1 ≤ kind ∧ kind ≤ 3 ∧ 1 ≤ n ∧ n ≤ 4096 then some (winList kind n, 0) else some ([], 2)

def recErr (rate : Int) (l : List Int) : Int := if l.length > 200000 then 5 else if rate < 1 ∨ rate > 192000 ∨ inR (-32768) 32767 l = false then 2 else 0
def smoothAt (l : List Int) (w i : Nat) : Int := rnd ((List.range w).map fun k => l.getD (min (i + k) (l.length - 1)) 0).sum w
def resAt (l : List Int) (u d w j : Nat) : Int := rnd (smoothAt l w (j * d / u) * ((u : Int) - (j * d % u : Nat)) + smoothAt l w (j * d / u + 1) * (j * d % u : Nat)) u
def resList (l : List Int) (u d m : Nat) : List Int := (List.range m).map fun j => resAt l u d ((d + u - 1) / u) j
def wave_Resample.f (rate : Int) (l : List Int) (up down : Int) : Option (Int × List Int × Int) :=
  if recErr rate l ≠ 0 then some (0, [], recErr rate l)
  else if up < 1 ∨ up > 16 ∨ down < 1 ∨ down > 16 ∨ rate * up % down ≠ 0 ∨ rate * up / down < 1 ∨ rate * up / down > 192000 then some (0, [], 2)
  else if ((l.length : Int) * up + down - 1) / down > 200000 then some (0, [], 5)
  else some (rate * up / down, resList l up.toNat down.toNat (((l.length : Int) * up + down - 1) / down).toNat, 0)

/-- The bytes of a number, the least significant one first. -/
def leb (n : Int) : Nat → List Int
  | 0 => []
  | k + 1 => (n % 256) :: leb (n / 256) k
def geb : List Int → Int
  | [] => 0
  | x :: t => x + 256 * geb t
def sumB (b : List Int) : Int := b.foldl (fun c x => (65599 * c + x + 1) % 4294967296) 1
def packBody (rate : Int) (l : List Int) : List Int := [69, 65, 82, 49] ++ leb rate 4 ++ leb l.length 4 ++ l.flatMap fun v => leb (v % 65536) 2
def packB (rate : Int) (l : List Int) : List Int := packBody rate l ++ leb (sumB (packBody rate l)) 4
def wave_Pack.f (rate : Int) (l : List Int) : Option (List Int × Int) := if recErr rate l ≠ 0 then some ([], recErr rate l) else some (packB rate l, 0)
def earshotref02_Pack.f (rate : Int) (l : List Int) : Option (List Int) := if recErr rate l = 0 then some (packB rate l) else none
def samplesOf : List Int → List Int
  | a :: b :: t => (if a + 256 * b > 32767 then a + 256 * b - 65536 else a + 256 * b) :: samplesOf t
  | _ => []
def wave_Unpack.f (b : List Int) : Option (Int × List Int × Int) :=
  if inR 0 255 b = false then none
  else if b.length > 500000 then some (0, [], 5)
  else if b.length < 16 ∨ b.take 4 ≠ [69, 65, 82, 49] then some (0, [], 4)
  else if geb ((b.drop 4).take 4) < 1 ∨ geb ((b.drop 4).take 4) > 192000 ∨ geb ((b.drop 8).take 4) > 200000 ∨ (b.length : Int) ≠ 16 + 2 * geb ((b.drop 8).take 4) then some (0, [], 4)
  else if geb (b.drop (b.length - 4)) ≠ sumB (b.take (b.length - 4)) then some (0, [], 4)
  else some (geb ((b.drop 4).take 4), samplesOf ((b.drop 12).take (b.length - 16)), 0)

def valErr (l : List Int) : Int := if l.length > 200000 then 5 else if inR (-2147483647) 2147483647 l = true then 0 else 2
def frameN (len size step : Int) (pad : Bool) : Int := if pad = true then (len + step - 1) / step else if len ≥ size then (len - size) / step + 1 else 0
def frameAt (l : List Int) (size step t : Nat) : List Int := (List.range size).map fun i => l.getD (t * step + i) 0
def wave_Frames.f (l : List Int) (size step : Int) (pad : Bool) : Option (List (List Int) × Int) :=
  if valErr l ≠ 0 then some ([], valErr l)
  else if size < 1 ∨ size > 4096 ∨ step < 1 ∨ step > 4096 then some ([], 2)
  else if frameN l.length size step pad * size > 4000000 then some ([], 5)
  else some ((List.range (frameN l.length size step pad).toNat).map fun t => frameAt l size.toNat step.toNat t, 0)

/-! Listeners -/
structure Gt where
  block : Int
  high : Int
  low : Int
  rise : Int
  fall : Int
  lead : Int
  longest : Int
/-- What a listener remembers between two blocks; state 0: waiting, 1: speaking, 2: closed. -/
structure Ls where
  state : Int
  blocks : Int
  run : Int
  start : Int
  free : Int
def gateOK (g : Gt) : Bool := decide (1 ≤ g.block) && decide (g.block ≤ 4096) && (decide (0 ≤ g.low) && decide (g.low ≤ g.high)) && decide (g.high ≤ 1073741824) && (decide (1 ≤ g.rise) && decide (g.rise ≤ 1000)) && (decide (1 ≤ g.fall) && decide (g.fall ≤ 1000)) && (decide (0 ≤ g.lead) && decide (g.lead ≤ 1000)) && (decide (g.rise + g.fall + g.lead ≤ g.longest) && decide (g.longest ≤ 100000))
def nextRun (run : Int) (goes : Bool) : Int := if goes = true then run + 1 else 0
/-- A block of energy n is processed. -/
def proc (g : Gt) (s : Ls) (n : Int) : Ls × Option S65 :=
  if s.state = 0 then
    if nextRun s.run (decide (g.high * g.block ≤ n)) = g.rise then ({ state := 1, blocks := s.blocks + 1, run := 0, start := max (s.blocks - g.rise + 1 - g.lead) s.free, free := s.free }, none)
    else ({ s with blocks := s.blocks + 1, run := nextRun s.run (decide (g.high * g.block ≤ n)) }, none)
  else if nextRun s.run (decide (n < g.low * g.block)) = g.fall then
    ({ state := 0, blocks := s.blocks + 1, run := 0, start := s.start, free := s.blocks - g.fall + 1 }, some ⟨s.start * g.block, (s.blocks - g.fall + 1) * g.block⟩)
  else if s.blocks - s.start + 1 = g.longest then
    ({ state := 0, blocks := s.blocks + 1, run := 0, start := s.start, free := s.blocks + 1 }, some ⟨s.start * g.block, (s.blocks + 1) * g.block⟩)
  else ({ s with blocks := s.blocks + 1, run := nextRun s.run (decide (n < g.low * g.block)) }, none)
/-- So many blocks off the front of a list are processed. -/
def runBlocks (g : Gt) : Nat → Ls → List Int → Ls × List S65
  | 0, s, _ => (s, [])
  | q + 1, s, r => ((runBlocks g q (proc g s (sumsq (r.take g.block.toNat))).1 (r.drop g.block.toNat)).1, (proc g s (sumsq (r.take g.block.toNat))).2.toList ++ (runBlocks g q (proc g s (sumsq (r.take g.block.toNat))).1 (r.drop g.block.toNat)).2)
def ls0 : Ls := ⟨0, 0, 0, 0, 0⟩
def segsOf (g : Gt) (l : List Int) : List S65 := (runBlocks g (l.length / g.block.toNat) ls0 l).2 ++ (if (runBlocks g (l.length / g.block.toNat) ls0 l).1.state = 1 then [⟨(runBlocks g (l.length / g.block.toNat) ls0 l).1.start * g.block, l.length⟩] else [])
def wave_Segments.f (l : List Int) (b h lo r f le lg : Int) : Option (List S65 × Int) :=
  if l.length > 200000 then some ([], 5)
  else if gateOK ⟨b, h, lo, r, f, le, lg⟩ = false ∨ inR (-32768) 32767 l = false then some ([], 2)
  else some (segsOf ⟨b, h, lo, r, f, le, lg⟩ l, 0)

end Go.Proofs.Ytigbfcodnbnicaa.P
