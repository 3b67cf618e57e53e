/- The engine as plain functions: states, their validity, a tick. -/
import Derived.Test.YtgiadgbfeldheaaLa
import Derived.Test.YtgiadgbfeldheaaMa
import Derived.Test.YtgiadgbfeldheaaX
namespace Go.Proofs.Ytgiadgbfeldheaa
open Go

/-- a state -/
structure St where
  tick : Int
  ax : Int
  ay : Int
  fx : Int
  fy : Int
  turn : Int
  gate : Int
  done : Bool
  over : Bool

/-- .. is valid in any level -/
def St.own (s : St) : Bool := inB s.tick 0 60 && vokB s.ax s.ay && vokB s.fx s.fy && decide (len s.fx s.fy ≤ 2000) && inB s.turn 0 15 && inB s.gate 0 3 && !(s.done && s.over)
/-- .. is valid in a level -/
def St.okIn (l : Lv) (s : St) : Bool := l.ok && s.own && decide (s.tick ≤ l.ticks) && decide (s.gate ≤ l.gn) && frB l.wf s.ax s.ay l.wn && (!s.done || decide (s.gate = l.gn))
/-- the first coordinates of the directions -/
def dirL : List Int := [1000, 924, 707, 383, 0, -383, -707, -924, -1000, -924, -707, -383, 0, 383, 707, 924]
def dirX (d : Int) : Int := dirL.getD d.toNat 0
def dirY (d : Int) : Int := dirX ((d + 12) % 16)
def pushX (d : Int) : Int := (dirX d * 200).tdiv 1000
def pushY (d : Int) : Int := (dirY d * 200).tdiv 1000
/-- a number of a vector clamped, whose length is n -/
def clF (n a : Int) : Int := if n ≤ 2000 then a else (a * 2000).tdiv n
/-- how fast the car gets -/
def fastX (s : St) (t p : Int) : Int := if p = 1 then clF (len (s.fx + pushX t) (s.fy + pushY t)) (s.fx + pushX t) else if p = 2 then (s.fx * 700).tdiv 1000 else (s.fx * 950).tdiv 1000
def fastY (s : St) (t p : Int) : Int := if p = 1 then clF (len (s.fx + pushX t) (s.fy + pushY t)) (s.fy + pushY t) else if p = 2 then (s.fy * 700).tdiv 1000 else (s.fy * 950).tdiv 1000
/-- the car moves along the first coordinate, along the second one -/
def moveX (l : Lv) (s : St) : St := if frB l.wf (s.ax + s.fx) s.ay l.wn then { s with ax := s.ax + s.fx } else { s with fx := (-s.fx).tdiv 2 }
def moveY (l : Lv) (s : St) : St := if frB l.wf s.ax (s.ay + s.fy) l.wn then { s with ay := s.ay + s.fy } else { s with fy := (-s.fy).tdiv 2 }
/-- behind the move: the gate, the finish -/
def gateF (l : Lv) (s : St) : Int := if s.gate < l.gn && hasB (l.gf s.gate.toNat).lx (l.gf s.gate.toNat).ly (l.gf s.gate.toNat).hx (l.gf s.gate.toNat).hy s.ax s.ay then s.gate + 1 else s.gate
def doneF (l : Lv) (s : St) : Bool := decide (gateF l s = l.gn) && hasB l.flx l.fly l.fhx l.fhy s.ax s.ay
def turnF (s : St) (d : Int) : Int := (s.turn + d + 16) % 16
def movedF (l : Lv) (s : St) (d p : Int) : St := moveY l (moveX l { s with turn := turnF s d, fx := fastX s (turnF s d) p, fy := fastY s (turnF s d) p })
/-- a tick of driving -/
def driveF (l : Lv) (s : St) (d p : Int) : St :=
  if vokB (movedF l s d p).ax (movedF l s d p).ay then { movedF l s d p with gate := gateF l (movedF l s d p), done := doneF l (movedF l s d p) }
  else { s with over := true }
/-- a tick -/
def stepF (l : Lv) (s : St) (d p : Int) (b : Bool) : St :=
  if s.done || s.over then s else if b then { s with tick := s.tick + 1 } else driveF l { s with tick := s.tick + 1 } d p
end Go.Proofs.Ytgiadgbfeldheaa
