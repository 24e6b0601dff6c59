/- Lemmas of the proof (cut to what it uses, by wip/trim.py). -/
import Derived.Test.YtgmmngipnjmkfaaGreatDoorEn3
import Derived.Test.YtgmmngipnjmkfaaGreatDoorEn6
import Derived.Test.YtgmmngipnjmkfaaGreatDoorEn10
section
namespace Go.Proofs.YtgmmngipnjmkfaaGreatDoor.Q
open Go.Proofs.YtgmmngipnjmkfaaGreatDoor.Hand
open Go.RowKit Go.Proofs.YtgmmngipnjmkfaaGreatDoorW.PrintWords Go.Proofs.YtgmmngipnjmkfaaGreatDoorW.PrintLast Go.Proofs.YtgmmngipnjmkfaaGreatDoorW.PrintMore
attribute [local go_sem] zdd zde max_two min_two zcy zcz zdf zdg
set_option linter.unusedVariables false
set_option linter.unusedSimpArgs false
mutual
def zaf.l0 : Nat → Bool → List ByteArray → List Int → Int → Option (Bool)
  | 0, _, _, _, _ => none
  | k + 1, x1, x2, x3, x4 => if x4 < (x2.length : Int) then (if 0 ≤ x4 then ((zbj.f k (rdOf ByteArray.empty x2 x4)).bind fun bt226 => ((zax.f k bt226.1 0).bind fun bt231 => (if bt226.2.2 = 0 then (if x4 < (x3.length : Int) then (if (rd x3 x4) ≥ 0 then (if bt231.2.2 = 12 then (if bt231.2.1 = (rd x3 x4) then (if (rd x3 x4) < 0 then (if bt231.2.2 = 0 then (zaf.j1 k x1 x2 x3 x4 (bt231.2.1 != 1)) else (none)) else (zaf.j1 k x1 x2 x3 x4 false)) else (none)) else (none)) else (if (rd x3 x4) < 0 then (if bt231.2.2 = 0 then (zaf.j1 k x1 x2 x3 x4 (bt231.2.1 != 1)) else (none)) else (zaf.j1 k x1 x2 x3 x4 false))) else (none)) else (none)))) else (none)) else (zaf.l1 k x1 (([(⟨2, (⟨#[118]⟩ : ByteArray), 0⟩ : S33)] : List (S33))) 0 2 (⟨#[118]⟩ : ByteArray) 0)
def zaf.j1 : Nat → Bool → List ByteArray → List Int → Int → Bool → Option (Bool)
  | 0, _, _, _, _, _ => none
  | k + 1, x1, x2, x3, x4, x146 => if x146 = true then (some false) else (zaf.l0 k x1 x2 x3 (wrap64 (x4 + 1)))
def zaf.l1 : Nat → Bool → List (S33) → Int → Int → ByteArray → Int → Option (Bool)
  | 0, _, _, _, _, _, _ => none
  | k + 1, x1, x12, x13, x241000, x241001, x241002 => if x13 < 20 then ((some (([(⟨3, (⟨#[43]⟩ : ByteArray), wrap64 (x13 + 1)⟩ : S33), (⟨x241000, x241001, x241002⟩ : S33)] : List (S33)) : List (S33))).bind fun y244 => (if x12.length + y244.length < 4398046511104 then (zaf.l1 k x1 (x12 ++ y244) (wrap64 (x13 + 1)) x241000 x241001 x241002) else (none))) else ((zax.f k x12 0).bind fun bt250 => (zaf.l2 k x1 bt250.2.1 bt250.2.2 ([] : List (S33)) 0 x241000 x241001 x241002))
def zaf.l2 : Nat → Bool → Int → Int → List (S33) → Int → Int → ByteArray → Int → Option (Bool)
  | 0, _, _, _, _, _, _, _, _ => none
  | k + 1, x1, x15, x16, x17, x19, x241000, x241001, x241002 => if x19 < 20 then (if x17.length < 4398046511104 then (zaf.l2 k x1 x15 x16 (x17 ++ [(⟨3, (⟨#[45]⟩ : ByteArray), 0⟩ : S33)]) (wrap64 (x19 + 1)) x241000 x241001 x241002) else (none)) else (zaf.l3 k x1 x15 x16 x17 ([] : List (S33)) 0 x241000 x241001 x241002)
def zaf.l3 : Nat → Bool → Int → Int → List (S33) → List (S33) → Int → Int → ByteArray → Int → Option (Bool)
  | 0, _, _, _, _, _, _, _, _, _ => none
  | k + 1, x1, x15, x16, x17, x18, x20, x241000, x241001, x241002 => if x20 < 60 then (if x18.length < 4398046511104 then (zaf.l3 k x1 x15 x16 x17 (x18 ++ [(⟨3, (⟨#[40]⟩ : ByteArray), 0⟩ : S33)]) (wrap64 (x20 + 1)) x241000 x241001 x241002) else (none)) else (if x18.length < 4398046511104 then (zaf.l4 k x1 x15 x16 x17 (x18 ++ [(⟨x241000, x241001, x241002⟩ : S33)]) 0 x241000 x241001 x241002) else (none))
def zaf.l4 : Nat → Bool → Int → Int → List (S33) → List (S33) → Int → Int → ByteArray → Int → Option (Bool)
  | 0, _, _, _, _, _, _, _, _, _ => none
  | k + 1, x1, x15, x16, x17, x18, x21, x241000, x241001, x241002 => if x21 < 60 then (if x18.length < 4398046511104 then (zaf.l4 k x1 x15 x16 x17 (x18 ++ [(⟨3, (⟨#[41]⟩ : ByteArray), 0⟩ : S33)]) (wrap64 (x21 + 1)) x241000 x241001 x241002) else (none)) else (if x17.length < 4398046511104 then ((zax.f k (x17 ++ [(⟨x241000, x241001, x241002⟩ : S33)]) 0).bind fun bt270 => ((zax.f k x18 0).bind fun bt275 => (if 201 ≤ 8796093022208 then ((zax.f k (List.replicate 201 z33) 0).bind fun bt283 => ((zax.f k (([(⟨0, (⟨#[]⟩ : ByteArray), 0⟩ : S33)] : List (S33))) 9).bind fun bt291 => ((zax.f k (([(⟨2, (⟨#[118]⟩ : ByteArray), 401⟩ : S33)] : List (S33))) 0).bind fun bt299 => ((zax.f k (([(⟨x241000, x241001, x241002⟩ : S33)] : List (S33))) 2).bind fun bt307 => ((zax.f k (([(⟨x241000, x241001, x241002⟩ : S33)] : List (S33))) 1).bind fun bt315 => ((zbh.f ([] : List (S43))).bind fun bt320 => (if x1 = true then (if x16 = 34 then (if x15 = 39 then (if bt270.2.2 = 34 then (if bt270.2.1 = 0 then (if bt275.2.2 = 0 then (if bt275.2.1 = 121 then (if (bt275.1.length : Int) = 1 then (if bt283.2.2 = 4 then (if bt291.2.2 = 8 then (if bt299.2.2 = 8 then (if bt307.2.2 = 2 then (if bt315.2.2 = 12 then (if bt315.2.1 = 1 then (if bt320.2 = 8 then ((za1.f k).bind fun t322 => (some t322)) else (none)) else (none)) else (none)) else (none)) else (none)) else (none)) else (none)) else (none)) else (none)) else (none)) else (none)) else (none)) else (none)) else (none)) else (none)))))))) else (none)))) else (none))
end
def zaf.f (k : Nat)  : Option (Bool) := (zab.f k (⟨#[48, 48, 55]⟩ : ByteArray) (⟨#[55]⟩ : ByteArray)).bind fun t204 => (if t204 = true then ((zab.f k (⟨#[116]⟩ : ByteArray) (⟨#[116]⟩ : ByteArray)).bind fun t205 => (if t205 = true then ((zab.f k (⟨#[107, 32, 45, 32, 116, 32, 45, 32, 118]⟩ : ByteArray) (⟨#[40, 107, 32, 45, 32, 116, 41, 32, 45, 32, 118]⟩ : ByteArray)).bind fun t206 => (if t206 = true then ((zab.f k (⟨#[107, 32, 60, 60, 32, 49, 32, 62, 62, 32, 50]⟩ : ByteArray) (⟨#[40, 107, 32, 60, 60, 32, 49, 41, 32, 62, 62, 32, 50]⟩ : ByteArray)).bind fun t207 => (if t207 = true then ((zab.f k (⟨#[45, 45, 118]⟩ : ByteArray) (⟨#[45, 32, 40, 45, 32, 118, 41]⟩ : ByteArray)).bind fun t208 => (if t208 = true then ((zab.f k (⟨#[45, 118, 32, 42, 32, 45, 50]⟩ : ByteArray) (⟨#[40, 45, 32, 118, 41, 32, 42, 32, 40, 45, 32, 50, 41]⟩ : ByteArray)).bind fun t209 => (if t209 = true then ((zab.f k (⟨#[110, 111, 116, 32, 110, 111, 116, 32, 118, 32, 60, 32, 49]⟩ : ByteArray) (⟨#[110, 111, 116, 32, 40, 110, 111, 116, 32, 40, 118, 32, 60, 32, 49, 41, 41]⟩ : ByteArray)).bind fun t210 => (if t210 = true then ((zab.f k (⟨#[107, 32, 61, 32, 49, 32, 111, 114, 32, 116, 32, 61, 32, 50, 32, 97, 110, 100, 32, 118, 32, 61, 32, 51]⟩ : ByteArray) (⟨#[40, 107, 32, 61, 32, 49, 41, 32, 111, 114, 32, 40, 40, 116, 32, 61, 32, 50, 41, 32, 97, 110, 100, 32, 40, 118, 32, 61, 32, 51, 41, 41]⟩ : ByteArray)).bind fun t211 => (if t211 = true then ((zab.f k (⟨#[49, 32, 43, 32, 50, 32, 60, 60, 32, 51, 32, 43, 32, 52]⟩ : ByteArray) (⟨#[40, 49, 32, 43, 32, 50, 41, 32, 60, 60, 32, 40, 51, 32, 43, 32, 52, 41]⟩ : ByteArray)).bind fun t212 => (if t212 = true then ((zab.f k (⟨#[40, 40, 118, 41, 41]⟩ : ByteArray) (⟨#[118]⟩ : ByteArray)).bind fun t213 => (if t213 = true then ((zab.f k (⟨#[118, 32, 62, 61, 32, 49, 32, 60, 60, 32, 50]⟩ : ByteArray) (⟨#[118, 32, 62, 61, 32, 40, 49, 32, 60, 60, 32, 50, 41]⟩ : ByteArray)).bind fun t214 => (if t214 = true then ((zab.f k (⟨#[40, 118, 32, 60, 32, 49, 41, 32, 33, 61, 32, 40, 107, 32, 60, 61, 32, 50, 41]⟩ : ByteArray) (⟨#[40, 118, 32, 60, 32, 49, 41, 32, 33, 61, 32, 40, 107, 32, 60, 61, 32, 50, 41]⟩ : ByteArray)).bind fun t215 => (if t215 = true then ((zab.f k (⟨#[107, 32, 111, 114, 32, 116, 32, 111, 114, 32, 118]⟩ : ByteArray) (⟨#[40, 107, 32, 111, 114, 32, 116, 41, 32, 111, 114, 32, 118]⟩ : ByteArray)).bind fun t216 => (if t216 = true then ((zab.f k (⟨#[45, 32, 40, 110, 111, 116, 32, 118, 41]⟩ : ByteArray) (⟨#[45, 32, 40, 110, 111, 116, 32, 118, 41]⟩ : ByteArray)).bind fun t217 => (if t217 = true then ((zab.f k (⟨#[107, 32, 62, 32, 116]⟩ : ByteArray) (⟨#[107, 32, 62, 32, 116]⟩ : ByteArray)).bind fun t218 => (zaf.l0 k t218 (([(⟨#[]⟩ : ByteArray), (⟨#[41]⟩ : ByteArray), (⟨#[40]⟩ : ByteArray), (⟨#[40, 118]⟩ : ByteArray), (⟨#[40, 41]⟩ : ByteArray), (⟨#[118, 32, 118]⟩ : ByteArray), (⟨#[45, 32]⟩ : ByteArray), (⟨#[110, 111, 116]⟩ : ByteArray), (⟨#[118, 32, 43, 32, 110, 111, 116, 32, 107]⟩ : ByteArray), (⟨#[45, 110, 111, 116, 32, 118]⟩ : ByteArray), (⟨#[118, 32, 42]⟩ : ByteArray), (⟨#[115, 101, 108, 101, 99, 116]⟩ : ByteArray), (⟨#[60, 32, 49]⟩ : ByteArray), (⟨#[118, 32, 60, 32, 110, 111, 116, 32, 107]⟩ : ByteArray), (⟨#[61, 32, 118]⟩ : ByteArray), (⟨#[107, 32, 97, 110, 100]⟩ : ByteArray), (⟨#[49, 32, 50]⟩ : ByteArray)] : List ByteArray)) (([0, 0, 1, 2, 1, (-1), 1, 1, 2, 1, 2, 0, 0, 2, 0, 2, (-1)] : List Int)) 0)) else (none))) else (none))) else (none))) else (none))) else (none))) else (none))) else (none))) else (none))) else (none))) else (none))) else (none))) else (none))) else (none))) else (none))
set_option maxHeartbeats 8000000 in
set_option maxRecDepth 100000 in
theorem zaf.calls (k : Nat)  (r : Bool) (w : World) (hT : Tabs w) (h : zaf.f k  = some r) :
 Calls Tryz.prog 3 #[] w fun e w' => e = .returned (.bool r) ∧ Below w.heap.size w w' := by
 have hu33 := Tryz.underlying33
 have HB := zae.mk (Below.refl w.heap.size w)
 have H : ((zab.f k (⟨#[48, 48, 55]⟩ : ByteArray) (⟨#[55]⟩ : ByteArray)).bind fun t204 => (if t204 = true then ((zab.f k (⟨#[116]⟩ : ByteArray) (⟨#[116]⟩ : ByteArray)).bind fun t205 => (if t205 = true then ((zab.f k (⟨#[107, 32, 45, 32, 116, 32, 45, 32, 118]⟩ : ByteArray) (⟨#[40, 107, 32, 45, 32, 116, 41, 32, 45, 32, 118]⟩ : ByteArray)).bind fun t206 => (if t206 = true then ((zab.f k (⟨#[107, 32, 60, 60, 32, 49, 32, 62, 62, 32, 50]⟩ : ByteArray) (⟨#[40, 107, 32, 60, 60, 32, 49, 41, 32, 62, 62, 32, 50]⟩ : ByteArray)).bind fun t207 => (if t207 = true then ((zab.f k (⟨#[45, 45, 118]⟩ : ByteArray) (⟨#[45, 32, 40, 45, 32, 118, 41]⟩ : ByteArray)).bind fun t208 => (if t208 = true then ((zab.f k (⟨#[45, 118, 32, 42, 32, 45, 50]⟩ : ByteArray) (⟨#[40, 45, 32, 118, 41, 32, 42, 32, 40, 45, 32, 50, 41]⟩ : ByteArray)).bind fun t209 => (if t209 = true then ((zab.f k (⟨#[110, 111, 116, 32, 110, 111, 116, 32, 118, 32, 60, 32, 49]⟩ : ByteArray) (⟨#[110, 111, 116, 32, 40, 110, 111, 116, 32, 40, 118, 32, 60, 32, 49, 41, 41]⟩ : ByteArray)).bind fun t210 => (if t210 = true then ((zab.f k (⟨#[107, 32, 61, 32, 49, 32, 111, 114, 32, 116, 32, 61, 32, 50, 32, 97, 110, 100, 32, 118, 32, 61, 32, 51]⟩ : ByteArray) (⟨#[40, 107, 32, 61, 32, 49, 41, 32, 111, 114, 32, 40, 40, 116, 32, 61, 32, 50, 41, 32, 97, 110, 100, 32, 40, 118, 32, 61, 32, 51, 41, 41]⟩ : ByteArray)).bind fun t211 => (if t211 = true then ((zab.f k (⟨#[49, 32, 43, 32, 50, 32, 60, 60, 32, 51, 32, 43, 32, 52]⟩ : ByteArray) (⟨#[40, 49, 32, 43, 32, 50, 41, 32, 60, 60, 32, 40, 51, 32, 43, 32, 52, 41]⟩ : ByteArray)).bind fun t212 => (if t212 = true then ((zab.f k (⟨#[40, 40, 118, 41, 41]⟩ : ByteArray) (⟨#[118]⟩ : ByteArray)).bind fun t213 => (if t213 = true then ((zab.f k (⟨#[118, 32, 62, 61, 32, 49, 32, 60, 60, 32, 50]⟩ : ByteArray) (⟨#[118, 32, 62, 61, 32, 40, 49, 32, 60, 60, 32, 50, 41]⟩ : ByteArray)).bind fun t214 => (if t214 = true then ((zab.f k (⟨#[40, 118, 32, 60, 32, 49, 41, 32, 33, 61, 32, 40, 107, 32, 60, 61, 32, 50, 41]⟩ : ByteArray) (⟨#[40, 118, 32, 60, 32, 49, 41, 32, 33, 61, 32, 40, 107, 32, 60, 61, 32, 50, 41]⟩ : ByteArray)).bind fun t215 => (if t215 = true then ((zab.f k (⟨#[107, 32, 111, 114, 32, 116, 32, 111, 114, 32, 118]⟩ : ByteArray) (⟨#[40, 107, 32, 111, 114, 32, 116, 41, 32, 111, 114, 32, 118]⟩ : ByteArray)).bind fun t216 => (if t216 = true then ((zab.f k (⟨#[45, 32, 40, 110, 111, 116, 32, 118, 41]⟩ : ByteArray) (⟨#[45, 32, 40, 110, 111, 116, 32, 118, 41]⟩ : ByteArray)).bind fun t217 => (if t217 = true then ((zab.f k (⟨#[107, 32, 62, 32, 116]⟩ : ByteArray) (⟨#[107, 32, 62, 32, 116]⟩ : ByteArray)).bind fun t218 => (zaf.l0 k t218 (([(⟨#[]⟩ : ByteArray), (⟨#[41]⟩ : ByteArray), (⟨#[40]⟩ : ByteArray), (⟨#[40, 118]⟩ : ByteArray), (⟨#[40, 41]⟩ : ByteArray), (⟨#[118, 32, 118]⟩ : ByteArray), (⟨#[45, 32]⟩ : ByteArray), (⟨#[110, 111, 116]⟩ : ByteArray), (⟨#[118, 32, 43, 32, 110, 111, 116, 32, 107]⟩ : ByteArray), (⟨#[45, 110, 111, 116, 32, 118]⟩ : ByteArray), (⟨#[118, 32, 42]⟩ : ByteArray), (⟨#[115, 101, 108, 101, 99, 116]⟩ : ByteArray), (⟨#[60, 32, 49]⟩ : ByteArray), (⟨#[118, 32, 60, 32, 110, 111, 116, 32, 107]⟩ : ByteArray), (⟨#[61, 32, 118]⟩ : ByteArray), (⟨#[107, 32, 97, 110, 100]⟩ : ByteArray), (⟨#[49, 32, 50]⟩ : ByteArray)] : List ByteArray)) (([0, 0, 1, 2, 1, (-1), 1, 1, 2, 1, 2, 0, 0, 2, 0, 2, (-1)] : List Int)) 0)) else (none))) else (none))) else (none))) else (none))) else (none))) else (none))) else (none))) else (none))) else (none))) else (none))) else (none))) else (none))) else (none))) else (none))) = some r := h
 clear h
 replace H := Option.bind_eq_some_iff.mp H
 obtain ⟨t204, A10, H⟩ := H
 replace H : (if t204 = true then ((zab.f k (⟨#[116]⟩ : ByteArray) (⟨#[116]⟩ : ByteArray)).bind fun t205 => (if t205 = true then ((zab.f k (⟨#[107, 32, 45, 32, 116, 32, 45, 32, 118]⟩ : ByteArray) (⟨#[40, 107, 32, 45, 32, 116, 41, 32, 45, 32, 118]⟩ : ByteArray)).bind fun t206 => (if t206 = true then ((zab.f k (⟨#[107, 32, 60, 60, 32, 49, 32, 62, 62, 32, 50]⟩ : ByteArray) (⟨#[40, 107, 32, 60, 60, 32, 49, 41, 32, 62, 62, 32, 50]⟩ : ByteArray)).bind fun t207 => (if t207 = true then ((zab.f k (⟨#[45, 45, 118]⟩ : ByteArray) (⟨#[45, 32, 40, 45, 32, 118, 41]⟩ : ByteArray)).bind fun t208 => (if t208 = true then ((zab.f k (⟨#[45, 118, 32, 42, 32, 45, 50]⟩ : ByteArray) (⟨#[40, 45, 32, 118, 41, 32, 42, 32, 40, 45, 32, 50, 41]⟩ : ByteArray)).bind fun t209 => (if t209 = true then ((zab.f k (⟨#[110, 111, 116, 32, 110, 111, 116, 32, 118, 32, 60, 32, 49]⟩ : ByteArray) (⟨#[110, 111, 116, 32, 40, 110, 111, 116, 32, 40, 118, 32, 60, 32, 49, 41, 41]⟩ : ByteArray)).bind fun t210 => (if t210 = true then ((zab.f k (⟨#[107, 32, 61, 32, 49, 32, 111, 114, 32, 116, 32, 61, 32, 50, 32, 97, 110, 100, 32, 118, 32, 61, 32, 51]⟩ : ByteArray) (⟨#[40, 107, 32, 61, 32, 49, 41, 32, 111, 114, 32, 40, 40, 116, 32, 61, 32, 50, 41, 32, 97, 110, 100, 32, 40, 118, 32, 61, 32, 51, 41, 41]⟩ : ByteArray)).bind fun t211 => (if t211 = true then ((zab.f k (⟨#[49, 32, 43, 32, 50, 32, 60, 60, 32, 51, 32, 43, 32, 52]⟩ : ByteArray) (⟨#[40, 49, 32, 43, 32, 50, 41, 32, 60, 60, 32, 40, 51, 32, 43, 32, 52, 41]⟩ : ByteArray)).bind fun t212 => (if t212 = true then ((zab.f k (⟨#[40, 40, 118, 41, 41]⟩ : ByteArray) (⟨#[118]⟩ : ByteArray)).bind fun t213 => (if t213 = true then ((zab.f k (⟨#[118, 32, 62, 61, 32, 49, 32, 60, 60, 32, 50]⟩ : ByteArray) (⟨#[118, 32, 62, 61, 32, 40, 49, 32, 60, 60, 32, 50, 41]⟩ : ByteArray)).bind fun t214 => (if t214 = true then ((zab.f k (⟨#[40, 118, 32, 60, 32, 49, 41, 32, 33, 61, 32, 40, 107, 32, 60, 61, 32, 50, 41]⟩ : ByteArray) (⟨#[40, 118, 32, 60, 32, 49, 41, 32, 33, 61, 32, 40, 107, 32, 60, 61, 32, 50, 41]⟩ : ByteArray)).bind fun t215 => (if t215 = true then ((zab.f k (⟨#[107, 32, 111, 114, 32, 116, 32, 111, 114, 32, 118]⟩ : ByteArray) (⟨#[40, 107, 32, 111, 114, 32, 116, 41, 32, 111, 114, 32, 118]⟩ : ByteArray)).bind fun t216 => (if t216 = true then ((zab.f k (⟨#[45, 32, 40, 110, 111, 116, 32, 118, 41]⟩ : ByteArray) (⟨#[45, 32, 40, 110, 111, 116, 32, 118, 41]⟩ : ByteArray)).bind fun t217 => (if t217 = true then ((zab.f k (⟨#[107, 32, 62, 32, 116]⟩ : ByteArray) (⟨#[107, 32, 62, 32, 116]⟩ : ByteArray)).bind fun t218 => (zaf.l0 k t218 (([(⟨#[]⟩ : ByteArray), (⟨#[41]⟩ : ByteArray), (⟨#[40]⟩ : ByteArray), (⟨#[40, 118]⟩ : ByteArray), (⟨#[40, 41]⟩ : ByteArray), (⟨#[118, 32, 118]⟩ : ByteArray), (⟨#[45, 32]⟩ : ByteArray), (⟨#[110, 111, 116]⟩ : ByteArray), (⟨#[118, 32, 43, 32, 110, 111, 116, 32, 107]⟩ : ByteArray), (⟨#[45, 110, 111, 116, 32, 118]⟩ : ByteArray), (⟨#[118, 32, 42]⟩ : ByteArray), (⟨#[115, 101, 108, 101, 99, 116]⟩ : ByteArray), (⟨#[60, 32, 49]⟩ : ByteArray), (⟨#[118, 32, 60, 32, 110, 111, 116, 32, 107]⟩ : ByteArray), (⟨#[61, 32, 118]⟩ : ByteArray), (⟨#[107, 32, 97, 110, 100]⟩ : ByteArray), (⟨#[49, 32, 50]⟩ : ByteArray)] : List ByteArray)) (([0, 0, 1, 2, 1, (-1), 1, 1, 2, 1, 2, 0, 0, 2, 0, 2, (-1)] : List Int)) 0)) else (none))) else (none))) else (none))) else (none))) else (none))) else (none))) else (none))) else (none))) else (none))) else (none))) else (none))) else (none))) else (none))) else (none)) = some r := H
 have A1 := zae.mk A10
 clear A10
 by_cases c2 : t204 = true
 ·subst c2
  have H1 : ((zab.f k (⟨#[116]⟩ : ByteArray) (⟨#[116]⟩ : ByteArray)).bind fun t205 => (if t205 = true then ((zab.f k (⟨#[107, 32, 45, 32, 116, 32, 45, 32, 118]⟩ : ByteArray) (⟨#[40, 107, 32, 45, 32, 116, 41, 32, 45, 32, 118]⟩ : ByteArray)).bind fun t206 => (if t206 = true then ((zab.f k (⟨#[107, 32, 60, 60, 32, 49, 32, 62, 62, 32, 50]⟩ : ByteArray) (⟨#[40, 107, 32, 60, 60, 32, 49, 41, 32, 62, 62, 32, 50]⟩ : ByteArray)).bind fun t207 => (if t207 = true then ((zab.f k (⟨#[45, 45, 118]⟩ : ByteArray) (⟨#[45, 32, 40, 45, 32, 118, 41]⟩ : ByteArray)).bind fun t208 => (if t208 = true then ((zab.f k (⟨#[45, 118, 32, 42, 32, 45, 50]⟩ : ByteArray) (⟨#[40, 45, 32, 118, 41, 32, 42, 32, 40, 45, 32, 50, 41]⟩ : ByteArray)).bind fun t209 => (if t209 = true then ((zab.f k (⟨#[110, 111, 116, 32, 110, 111, 116, 32, 118, 32, 60, 32, 49]⟩ : ByteArray) (⟨#[110, 111, 116, 32, 40, 110, 111, 116, 32, 40, 118, 32, 60, 32, 49, 41, 41]⟩ : ByteArray)).bind fun t210 => (if t210 = true then ((zab.f k (⟨#[107, 32, 61, 32, 49, 32, 111, 114, 32, 116, 32, 61, 32, 50, 32, 97, 110, 100, 32, 118, 32, 61, 32, 51]⟩ : ByteArray) (⟨#[40, 107, 32, 61, 32, 49, 41, 32, 111, 114, 32, 40, 40, 116, 32, 61, 32, 50, 41, 32, 97, 110, 100, 32, 40, 118, 32, 61, 32, 51, 41, 41]⟩ : ByteArray)).bind fun t211 => (if t211 = true then ((zab.f k (⟨#[49, 32, 43, 32, 50, 32, 60, 60, 32, 51, 32, 43, 32, 52]⟩ : ByteArray) (⟨#[40, 49, 32, 43, 32, 50, 41, 32, 60, 60, 32, 40, 51, 32, 43, 32, 52, 41]⟩ : ByteArray)).bind fun t212 => (if t212 = true then ((zab.f k (⟨#[40, 40, 118, 41, 41]⟩ : ByteArray) (⟨#[118]⟩ : ByteArray)).bind fun t213 => (if t213 = true then ((zab.f k (⟨#[118, 32, 62, 61, 32, 49, 32, 60, 60, 32, 50]⟩ : ByteArray) (⟨#[118, 32, 62, 61, 32, 40, 49, 32, 60, 60, 32, 50, 41]⟩ : ByteArray)).bind fun t214 => (if t214 = true then ((zab.f k (⟨#[40, 118, 32, 60, 32, 49, 41, 32, 33, 61, 32, 40, 107, 32, 60, 61, 32, 50, 41]⟩ : ByteArray) (⟨#[40, 118, 32, 60, 32, 49, 41, 32, 33, 61, 32, 40, 107, 32, 60, 61, 32, 50, 41]⟩ : ByteArray)).bind fun t215 => (if t215 = true then ((zab.f k (⟨#[107, 32, 111, 114, 32, 116, 32, 111, 114, 32, 118]⟩ : ByteArray) (⟨#[40, 107, 32, 111, 114, 32, 116, 41, 32, 111, 114, 32, 118]⟩ : ByteArray)).bind fun t216 => (if t216 = true then ((zab.f k (⟨#[45, 32, 40, 110, 111, 116, 32, 118, 41]⟩ : ByteArray) (⟨#[45, 32, 40, 110, 111, 116, 32, 118, 41]⟩ : ByteArray)).bind fun t217 => (if t217 = true then ((zab.f k (⟨#[107, 32, 62, 32, 116]⟩ : ByteArray) (⟨#[107, 32, 62, 32, 116]⟩ : ByteArray)).bind fun t218 => (zaf.l0 k t218 (([(⟨#[]⟩ : ByteArray), (⟨#[41]⟩ : ByteArray), (⟨#[40]⟩ : ByteArray), (⟨#[40, 118]⟩ : ByteArray), (⟨#[40, 41]⟩ : ByteArray), (⟨#[118, 32, 118]⟩ : ByteArray), (⟨#[45, 32]⟩ : ByteArray), (⟨#[110, 111, 116]⟩ : ByteArray), (⟨#[118, 32, 43, 32, 110, 111, 116, 32, 107]⟩ : ByteArray), (⟨#[45, 110, 111, 116, 32, 118]⟩ : ByteArray), (⟨#[118, 32, 42]⟩ : ByteArray), (⟨#[115, 101, 108, 101, 99, 116]⟩ : ByteArray), (⟨#[60, 32, 49]⟩ : ByteArray), (⟨#[118, 32, 60, 32, 110, 111, 116, 32, 107]⟩ : ByteArray), (⟨#[61, 32, 118]⟩ : ByteArray), (⟨#[107, 32, 97, 110, 100]⟩ : ByteArray), (⟨#[49, 32, 50]⟩ : ByteArray)] : List ByteArray)) (([0, 0, 1, 2, 1, (-1), 1, 1, 2, 1, 2, 0, 0, 2, 0, 2, (-1)] : List Int)) 0)) else (none))) else (none))) else (none))) else (none))) else (none))) else (none))) else (none))) else (none))) else (none))) else (none))) else (none))) else (none))) else (none))) = some r := by rw [if_pos rfl] at H; exact H
  clear H
  have H := H1
  clear H1
  replace H := Option.bind_eq_some_iff.mp H
  obtain ⟨t205, A30, H⟩ := H
  replace H : (if t205 = true then ((zab.f k (⟨#[107, 32, 45, 32, 116, 32, 45, 32, 118]⟩ : ByteArray) (⟨#[40, 107, 32, 45, 32, 116, 41, 32, 45, 32, 118]⟩ : ByteArray)).bind fun t206 => (if t206 = true then ((zab.f k (⟨#[107, 32, 60, 60, 32, 49, 32, 62, 62, 32, 50]⟩ : ByteArray) (⟨#[40, 107, 32, 60, 60, 32, 49, 41, 32, 62, 62, 32, 50]⟩ : ByteArray)).bind fun t207 => (if t207 = true then ((zab.f k (⟨#[45, 45, 118]⟩ : ByteArray) (⟨#[45, 32, 40, 45, 32, 118, 41]⟩ : ByteArray)).bind fun t208 => (if t208 = true then ((zab.f k (⟨#[45, 118, 32, 42, 32, 45, 50]⟩ : ByteArray) (⟨#[40, 45, 32, 118, 41, 32, 42, 32, 40, 45, 32, 50, 41]⟩ : ByteArray)).bind fun t209 => (if t209 = true then ((zab.f k (⟨#[110, 111, 116, 32, 110, 111, 116, 32, 118, 32, 60, 32, 49]⟩ : ByteArray) (⟨#[110, 111, 116, 32, 40, 110, 111, 116, 32, 40, 118, 32, 60, 32, 49, 41, 41]⟩ : ByteArray)).bind fun t210 => (if t210 = true then ((zab.f k (⟨#[107, 32, 61, 32, 49, 32, 111, 114, 32, 116, 32, 61, 32, 50, 32, 97, 110, 100, 32, 118, 32, 61, 32, 51]⟩ : ByteArray) (⟨#[40, 107, 32, 61, 32, 49, 41, 32, 111, 114, 32, 40, 40, 116, 32, 61, 32, 50, 41, 32, 97, 110, 100, 32, 40, 118, 32, 61, 32, 51, 41, 41]⟩ : ByteArray)).bind fun t211 => (if t211 = true then ((zab.f k (⟨#[49, 32, 43, 32, 50, 32, 60, 60, 32, 51, 32, 43, 32, 52]⟩ : ByteArray) (⟨#[40, 49, 32, 43, 32, 50, 41, 32, 60, 60, 32, 40, 51, 32, 43, 32, 52, 41]⟩ : ByteArray)).bind fun t212 => (if t212 = true then ((zab.f k (⟨#[40, 40, 118, 41, 41]⟩ : ByteArray) (⟨#[118]⟩ : ByteArray)).bind fun t213 => (if t213 = true then ((zab.f k (⟨#[118, 32, 62, 61, 32, 49, 32, 60, 60, 32, 50]⟩ : ByteArray) (⟨#[118, 32, 62, 61, 32, 40, 49, 32, 60, 60, 32, 50, 41]⟩ : ByteArray)).bind fun t214 => (if t214 = true then ((zab.f k (⟨#[40, 118, 32, 60, 32, 49, 41, 32, 33, 61, 32, 40, 107, 32, 60, 61, 32, 50, 41]⟩ : ByteArray) (⟨#[40, 118, 32, 60, 32, 49, 41, 32, 33, 61, 32, 40, 107, 32, 60, 61, 32, 50, 41]⟩ : ByteArray)).bind fun t215 => (if t215 = true then ((zab.f k (⟨#[107, 32, 111, 114, 32, 116, 32, 111, 114, 32, 118]⟩ : ByteArray) (⟨#[40, 107, 32, 111, 114, 32, 116, 41, 32, 111, 114, 32, 118]⟩ : ByteArray)).bind fun t216 => (if t216 = true then ((zab.f k (⟨#[45, 32, 40, 110, 111, 116, 32, 118, 41]⟩ : ByteArray) (⟨#[45, 32, 40, 110, 111, 116, 32, 118, 41]⟩ : ByteArray)).bind fun t217 => (if t217 = true then ((zab.f k (⟨#[107, 32, 62, 32, 116]⟩ : ByteArray) (⟨#[107, 32, 62, 32, 116]⟩ : ByteArray)).bind fun t218 => (zaf.l0 k t218 (([(⟨#[]⟩ : ByteArray), (⟨#[41]⟩ : ByteArray), (⟨#[40]⟩ : ByteArray), (⟨#[40, 118]⟩ : ByteArray), (⟨#[40, 41]⟩ : ByteArray), (⟨#[118, 32, 118]⟩ : ByteArray), (⟨#[45, 32]⟩ : ByteArray), (⟨#[110, 111, 116]⟩ : ByteArray), (⟨#[118, 32, 43, 32, 110, 111, 116, 32, 107]⟩ : ByteArray), (⟨#[45, 110, 111, 116, 32, 118]⟩ : ByteArray), (⟨#[118, 32, 42]⟩ : ByteArray), (⟨#[115, 101, 108, 101, 99, 116]⟩ : ByteArray), (⟨#[60, 32, 49]⟩ : ByteArray), (⟨#[118, 32, 60, 32, 110, 111, 116, 32, 107]⟩ : ByteArray), (⟨#[61, 32, 118]⟩ : ByteArray), (⟨#[107, 32, 97, 110, 100]⟩ : ByteArray), (⟨#[49, 32, 50]⟩ : ByteArray)] : List ByteArray)) (([0, 0, 1, 2, 1, (-1), 1, 1, 2, 1, 2, 0, 0, 2, 0, 2, (-1)] : List Int)) 0)) else (none))) else (none))) else (none))) else (none))) else (none))) else (none))) else (none))) else (none))) else (none))) else (none))) else (none))) else (none))) else (none)) = some r := H
  have A3 := zae.mk A30
  clear A30
  by_cases c4 : t205 = true
  ·subst c4
   have H1 : ((zab.f k (⟨#[107, 32, 45, 32, 116, 32, 45, 32, 118]⟩ : ByteArray) (⟨#[40, 107, 32, 45, 32, 116, 41, 32, 45, 32, 118]⟩ : ByteArray)).bind fun t206 => (if t206 = true then ((zab.f k (⟨#[107, 32, 60, 60, 32, 49, 32, 62, 62, 32, 50]⟩ : ByteArray) (⟨#[40, 107, 32, 60, 60, 32, 49, 41, 32, 62, 62, 32, 50]⟩ : ByteArray)).bind fun t207 => (if t207 = true then ((zab.f k (⟨#[45, 45, 118]⟩ : ByteArray) (⟨#[45, 32, 40, 45, 32, 118, 41]⟩ : ByteArray)).bind fun t208 => (if t208 = true then ((zab.f k (⟨#[45, 118, 32, 42, 32, 45, 50]⟩ : ByteArray) (⟨#[40, 45, 32, 118, 41, 32, 42, 32, 40, 45, 32, 50, 41]⟩ : ByteArray)).bind fun t209 => (if t209 = true then ((zab.f k (⟨#[110, 111, 116, 32, 110, 111, 116, 32, 118, 32, 60, 32, 49]⟩ : ByteArray) (⟨#[110, 111, 116, 32, 40, 110, 111, 116, 32, 40, 118, 32, 60, 32, 49, 41, 41]⟩ : ByteArray)).bind fun t210 => (if t210 = true then ((zab.f k (⟨#[107, 32, 61, 32, 49, 32, 111, 114, 32, 116, 32, 61, 32, 50, 32, 97, 110, 100, 32, 118, 32, 61, 32, 51]⟩ : ByteArray) (⟨#[40, 107, 32, 61, 32, 49, 41, 32, 111, 114, 32, 40, 40, 116, 32, 61, 32, 50, 41, 32, 97, 110, 100, 32, 40, 118, 32, 61, 32, 51, 41, 41]⟩ : ByteArray)).bind fun t211 => (if t211 = true then ((zab.f k (⟨#[49, 32, 43, 32, 50, 32, 60, 60, 32, 51, 32, 43, 32, 52]⟩ : ByteArray) (⟨#[40, 49, 32, 43, 32, 50, 41, 32, 60, 60, 32, 40, 51, 32, 43, 32, 52, 41]⟩ : ByteArray)).bind fun t212 => (if t212 = true then ((zab.f k (⟨#[40, 40, 118, 41, 41]⟩ : ByteArray) (⟨#[118]⟩ : ByteArray)).bind fun t213 => (if t213 = true then ((zab.f k (⟨#[118, 32, 62, 61, 32, 49, 32, 60, 60, 32, 50]⟩ : ByteArray) (⟨#[118, 32, 62, 61, 32, 40, 49, 32, 60, 60, 32, 50, 41]⟩ : ByteArray)).bind fun t214 => (if t214 = true then ((zab.f k (⟨#[40, 118, 32, 60, 32, 49, 41, 32, 33, 61, 32, 40, 107, 32, 60, 61, 32, 50, 41]⟩ : ByteArray) (⟨#[40, 118, 32, 60, 32, 49, 41, 32, 33, 61, 32, 40, 107, 32, 60, 61, 32, 50, 41]⟩ : ByteArray)).bind fun t215 => (if t215 = true then ((zab.f k (⟨#[107, 32, 111, 114, 32, 116, 32, 111, 114, 32, 118]⟩ : ByteArray) (⟨#[40, 107, 32, 111, 114, 32, 116, 41, 32, 111, 114, 32, 118]⟩ : ByteArray)).bind fun t216 => (if t216 = true then ((zab.f k (⟨#[45, 32, 40, 110, 111, 116, 32, 118, 41]⟩ : ByteArray) (⟨#[45, 32, 40, 110, 111, 116, 32, 118, 41]⟩ : ByteArray)).bind fun t217 => (if t217 = true then ((zab.f k (⟨#[107, 32, 62, 32, 116]⟩ : ByteArray) (⟨#[107, 32, 62, 32, 116]⟩ : ByteArray)).bind fun t218 => (zaf.l0 k t218 (([(⟨#[]⟩ : ByteArray), (⟨#[41]⟩ : ByteArray), (⟨#[40]⟩ : ByteArray), (⟨#[40, 118]⟩ : ByteArray), (⟨#[40, 41]⟩ : ByteArray), (⟨#[118, 32, 118]⟩ : ByteArray), (⟨#[45, 32]⟩ : ByteArray), (⟨#[110, 111, 116]⟩ : ByteArray), (⟨#[118, 32, 43, 32, 110, 111, 116, 32, 107]⟩ : ByteArray), (⟨#[45, 110, 111, 116, 32, 118]⟩ : ByteArray), (⟨#[118, 32, 42]⟩ : ByteArray), (⟨#[115, 101, 108, 101, 99, 116]⟩ : ByteArray), (⟨#[60, 32, 49]⟩ : ByteArray), (⟨#[118, 32, 60, 32, 110, 111, 116, 32, 107]⟩ : ByteArray), (⟨#[61, 32, 118]⟩ : ByteArray), (⟨#[107, 32, 97, 110, 100]⟩ : ByteArray), (⟨#[49, 32, 50]⟩ : ByteArray)] : List ByteArray)) (([0, 0, 1, 2, 1, (-1), 1, 1, 2, 1, 2, 0, 0, 2, 0, 2, (-1)] : List Int)) 0)) else (none))) else (none))) else (none))) else (none))) else (none))) else (none))) else (none))) else (none))) else (none))) else (none))) else (none))) else (none))) = some r := by rw [if_pos rfl] at H; exact H
   clear H
   have H := H1
   clear H1
   replace H := Option.bind_eq_some_iff.mp H
   obtain ⟨t206, A50, H⟩ := H
   replace H : (if t206 = true then ((zab.f k (⟨#[107, 32, 60, 60, 32, 49, 32, 62, 62, 32, 50]⟩ : ByteArray) (⟨#[40, 107, 32, 60, 60, 32, 49, 41, 32, 62, 62, 32, 50]⟩ : ByteArray)).bind fun t207 => (if t207 = true then ((zab.f k (⟨#[45, 45, 118]⟩ : ByteArray) (⟨#[45, 32, 40, 45, 32, 118, 41]⟩ : ByteArray)).bind fun t208 => (if t208 = true then ((zab.f k (⟨#[45, 118, 32, 42, 32, 45, 50]⟩ : ByteArray) (⟨#[40, 45, 32, 118, 41, 32, 42, 32, 40, 45, 32, 50, 41]⟩ : ByteArray)).bind fun t209 => (if t209 = true then ((zab.f k (⟨#[110, 111, 116, 32, 110, 111, 116, 32, 118, 32, 60, 32, 49]⟩ : ByteArray) (⟨#[110, 111, 116, 32, 40, 110, 111, 116, 32, 40, 118, 32, 60, 32, 49, 41, 41]⟩ : ByteArray)).bind fun t210 => (if t210 = true then ((zab.f k (⟨#[107, 32, 61, 32, 49, 32, 111, 114, 32, 116, 32, 61, 32, 50, 32, 97, 110, 100, 32, 118, 32, 61, 32, 51]⟩ : ByteArray) (⟨#[40, 107, 32, 61, 32, 49, 41, 32, 111, 114, 32, 40, 40, 116, 32, 61, 32, 50, 41, 32, 97, 110, 100, 32, 40, 118, 32, 61, 32, 51, 41, 41]⟩ : ByteArray)).bind fun t211 => (if t211 = true then ((zab.f k (⟨#[49, 32, 43, 32, 50, 32, 60, 60, 32, 51, 32, 43, 32, 52]⟩ : ByteArray) (⟨#[40, 49, 32, 43, 32, 50, 41, 32, 60, 60, 32, 40, 51, 32, 43, 32, 52, 41]⟩ : ByteArray)).bind fun t212 => (if t212 = true then ((zab.f k (⟨#[40, 40, 118, 41, 41]⟩ : ByteArray) (⟨#[118]⟩ : ByteArray)).bind fun t213 => (if t213 = true then ((zab.f k (⟨#[118, 32, 62, 61, 32, 49, 32, 60, 60, 32, 50]⟩ : ByteArray) (⟨#[118, 32, 62, 61, 32, 40, 49, 32, 60, 60, 32, 50, 41]⟩ : ByteArray)).bind fun t214 => (if t214 = true then ((zab.f k (⟨#[40, 118, 32, 60, 32, 49, 41, 32, 33, 61, 32, 40, 107, 32, 60, 61, 32, 50, 41]⟩ : ByteArray) (⟨#[40, 118, 32, 60, 32, 49, 41, 32, 33, 61, 32, 40, 107, 32, 60, 61, 32, 50, 41]⟩ : ByteArray)).bind fun t215 => (if t215 = true then ((zab.f k (⟨#[107, 32, 111, 114, 32, 116, 32, 111, 114, 32, 118]⟩ : ByteArray) (⟨#[40, 107, 32, 111, 114, 32, 116, 41, 32, 111, 114, 32, 118]⟩ : ByteArray)).bind fun t216 => (if t216 = true then ((zab.f k (⟨#[45, 32, 40, 110, 111, 116, 32, 118, 41]⟩ : ByteArray) (⟨#[45, 32, 40, 110, 111, 116, 32, 118, 41]⟩ : ByteArray)).bind fun t217 => (if t217 = true then ((zab.f k (⟨#[107, 32, 62, 32, 116]⟩ : ByteArray) (⟨#[107, 32, 62, 32, 116]⟩ : ByteArray)).bind fun t218 => (zaf.l0 k t218 (([(⟨#[]⟩ : ByteArray), (⟨#[41]⟩ : ByteArray), (⟨#[40]⟩ : ByteArray), (⟨#[40, 118]⟩ : ByteArray), (⟨#[40, 41]⟩ : ByteArray), (⟨#[118, 32, 118]⟩ : ByteArray), (⟨#[45, 32]⟩ : ByteArray), (⟨#[110, 111, 116]⟩ : ByteArray), (⟨#[118, 32, 43, 32, 110, 111, 116, 32, 107]⟩ : ByteArray), (⟨#[45, 110, 111, 116, 32, 118]⟩ : ByteArray), (⟨#[118, 32, 42]⟩ : ByteArray), (⟨#[115, 101, 108, 101, 99, 116]⟩ : ByteArray), (⟨#[60, 32, 49]⟩ : ByteArray), (⟨#[118, 32, 60, 32, 110, 111, 116, 32, 107]⟩ : ByteArray), (⟨#[61, 32, 118]⟩ : ByteArray), (⟨#[107, 32, 97, 110, 100]⟩ : ByteArray), (⟨#[49, 32, 50]⟩ : ByteArray)] : List ByteArray)) (([0, 0, 1, 2, 1, (-1), 1, 1, 2, 1, 2, 0, 0, 2, 0, 2, (-1)] : List Int)) 0)) else (none))) else (none))) else (none))) else (none))) else (none))) else (none))) else (none))) else (none))) else (none))) else (none))) else (none))) else (none)) = some r := H
   have A5 := zae.mk A50
   clear A50
   by_cases c6 : t206 = true
   ·subst c6
    have H1 : ((zab.f k (⟨#[107, 32, 60, 60, 32, 49, 32, 62, 62, 32, 50]⟩ : ByteArray) (⟨#[40, 107, 32, 60, 60, 32, 49, 41, 32, 62, 62, 32, 50]⟩ : ByteArray)).bind fun t207 => (if t207 = true then ((zab.f k (⟨#[45, 45, 118]⟩ : ByteArray) (⟨#[45, 32, 40, 45, 32, 118, 41]⟩ : ByteArray)).bind fun t208 => (if t208 = true then ((zab.f k (⟨#[45, 118, 32, 42, 32, 45, 50]⟩ : ByteArray) (⟨#[40, 45, 32, 118, 41, 32, 42, 32, 40, 45, 32, 50, 41]⟩ : ByteArray)).bind fun t209 => (if t209 = true then ((zab.f k (⟨#[110, 111, 116, 32, 110, 111, 116, 32, 118, 32, 60, 32, 49]⟩ : ByteArray) (⟨#[110, 111, 116, 32, 40, 110, 111, 116, 32, 40, 118, 32, 60, 32, 49, 41, 41]⟩ : ByteArray)).bind fun t210 => (if t210 = true then ((zab.f k (⟨#[107, 32, 61, 32, 49, 32, 111, 114, 32, 116, 32, 61, 32, 50, 32, 97, 110, 100, 32, 118, 32, 61, 32, 51]⟩ : ByteArray) (⟨#[40, 107, 32, 61, 32, 49, 41, 32, 111, 114, 32, 40, 40, 116, 32, 61, 32, 50, 41, 32, 97, 110, 100, 32, 40, 118, 32, 61, 32, 51, 41, 41]⟩ : ByteArray)).bind fun t211 => (if t211 = true then ((zab.f k (⟨#[49, 32, 43, 32, 50, 32, 60, 60, 32, 51, 32, 43, 32, 52]⟩ : ByteArray) (⟨#[40, 49, 32, 43, 32, 50, 41, 32, 60, 60, 32, 40, 51, 32, 43, 32, 52, 41]⟩ : ByteArray)).bind fun t212 => (if t212 = true then ((zab.f k (⟨#[40, 40, 118, 41, 41]⟩ : ByteArray) (⟨#[118]⟩ : ByteArray)).bind fun t213 => (if t213 = true then ((zab.f k (⟨#[118, 32, 62, 61, 32, 49, 32, 60, 60, 32, 50]⟩ : ByteArray) (⟨#[118, 32, 62, 61, 32, 40, 49, 32, 60, 60, 32, 50, 41]⟩ : ByteArray)).bind fun t214 => (if t214 = true then ((zab.f k (⟨#[40, 118, 32, 60, 32, 49, 41, 32, 33, 61, 32, 40, 107, 32, 60, 61, 32, 50, 41]⟩ : ByteArray) (⟨#[40, 118, 32, 60, 32, 49, 41, 32, 33, 61, 32, 40, 107, 32, 60, 61, 32, 50, 41]⟩ : ByteArray)).bind fun t215 => (if t215 = true then ((zab.f k (⟨#[107, 32, 111, 114, 32, 116, 32, 111, 114, 32, 118]⟩ : ByteArray) (⟨#[40, 107, 32, 111, 114, 32, 116, 41, 32, 111, 114, 32, 118]⟩ : ByteArray)).bind fun t216 => (if t216 = true then ((zab.f k (⟨#[45, 32, 40, 110, 111, 116, 32, 118, 41]⟩ : ByteArray) (⟨#[45, 32, 40, 110, 111, 116, 32, 118, 41]⟩ : ByteArray)).bind fun t217 => (if t217 = true then ((zab.f k (⟨#[107, 32, 62, 32, 116]⟩ : ByteArray) (⟨#[107, 32, 62, 32, 116]⟩ : ByteArray)).bind fun t218 => (zaf.l0 k t218 (([(⟨#[]⟩ : ByteArray), (⟨#[41]⟩ : ByteArray), (⟨#[40]⟩ : ByteArray), (⟨#[40, 118]⟩ : ByteArray), (⟨#[40, 41]⟩ : ByteArray), (⟨#[118, 32, 118]⟩ : ByteArray), (⟨#[45, 32]⟩ : ByteArray), (⟨#[110, 111, 116]⟩ : ByteArray), (⟨#[118, 32, 43, 32, 110, 111, 116, 32, 107]⟩ : ByteArray), (⟨#[45, 110, 111, 116, 32, 118]⟩ : ByteArray), (⟨#[118, 32, 42]⟩ : ByteArray), (⟨#[115, 101, 108, 101, 99, 116]⟩ : ByteArray), (⟨#[60, 32, 49]⟩ : ByteArray), (⟨#[118, 32, 60, 32, 110, 111, 116, 32, 107]⟩ : ByteArray), (⟨#[61, 32, 118]⟩ : ByteArray), (⟨#[107, 32, 97, 110, 100]⟩ : ByteArray), (⟨#[49, 32, 50]⟩ : ByteArray)] : List ByteArray)) (([0, 0, 1, 2, 1, (-1), 1, 1, 2, 1, 2, 0, 0, 2, 0, 2, (-1)] : List Int)) 0)) else (none))) else (none))) else (none))) else (none))) else (none))) else (none))) else (none))) else (none))) else (none))) else (none))) else (none))) = some r := by rw [if_pos rfl] at H; exact H
    clear H
    have H := H1
    clear H1
    replace H := Option.bind_eq_some_iff.mp H
    obtain ⟨t207, A70, H⟩ := H
    replace H : (if t207 = true then ((zab.f k (⟨#[45, 45, 118]⟩ : ByteArray) (⟨#[45, 32, 40, 45, 32, 118, 41]⟩ : ByteArray)).bind fun t208 => (if t208 = true then ((zab.f k (⟨#[45, 118, 32, 42, 32, 45, 50]⟩ : ByteArray) (⟨#[40, 45, 32, 118, 41, 32, 42, 32, 40, 45, 32, 50, 41]⟩ : ByteArray)).bind fun t209 => (if t209 = true then ((zab.f k (⟨#[110, 111, 116, 32, 110, 111, 116, 32, 118, 32, 60, 32, 49]⟩ : ByteArray) (⟨#[110, 111, 116, 32, 40, 110, 111, 116, 32, 40, 118, 32, 60, 32, 49, 41, 41]⟩ : ByteArray)).bind fun t210 => (if t210 = true then ((zab.f k (⟨#[107, 32, 61, 32, 49, 32, 111, 114, 32, 116, 32, 61, 32, 50, 32, 97, 110, 100, 32, 118, 32, 61, 32, 51]⟩ : ByteArray) (⟨#[40, 107, 32, 61, 32, 49, 41, 32, 111, 114, 32, 40, 40, 116, 32, 61, 32, 50, 41, 32, 97, 110, 100, 32, 40, 118, 32, 61, 32, 51, 41, 41]⟩ : ByteArray)).bind fun t211 => (if t211 = true then ((zab.f k (⟨#[49, 32, 43, 32, 50, 32, 60, 60, 32, 51, 32, 43, 32, 52]⟩ : ByteArray) (⟨#[40, 49, 32, 43, 32, 50, 41, 32, 60, 60, 32, 40, 51, 32, 43, 32, 52, 41]⟩ : ByteArray)).bind fun t212 => (if t212 = true then ((zab.f k (⟨#[40, 40, 118, 41, 41]⟩ : ByteArray) (⟨#[118]⟩ : ByteArray)).bind fun t213 => (if t213 = true then ((zab.f k (⟨#[118, 32, 62, 61, 32, 49, 32, 60, 60, 32, 50]⟩ : ByteArray) (⟨#[118, 32, 62, 61, 32, 40, 49, 32, 60, 60, 32, 50, 41]⟩ : ByteArray)).bind fun t214 => (if t214 = true then ((zab.f k (⟨#[40, 118, 32, 60, 32, 49, 41, 32, 33, 61, 32, 40, 107, 32, 60, 61, 32, 50, 41]⟩ : ByteArray) (⟨#[40, 118, 32, 60, 32, 49, 41, 32, 33, 61, 32, 40, 107, 32, 60, 61, 32, 50, 41]⟩ : ByteArray)).bind fun t215 => (if t215 = true then ((zab.f k (⟨#[107, 32, 111, 114, 32, 116, 32, 111, 114, 32, 118]⟩ : ByteArray) (⟨#[40, 107, 32, 111, 114, 32, 116, 41, 32, 111, 114, 32, 118]⟩ : ByteArray)).bind fun t216 => (if t216 = true then ((zab.f k (⟨#[45, 32, 40, 110, 111, 116, 32, 118, 41]⟩ : ByteArray) (⟨#[45, 32, 40, 110, 111, 116, 32, 118, 41]⟩ : ByteArray)).bind fun t217 => (if t217 = true then ((zab.f k (⟨#[107, 32, 62, 32, 116]⟩ : ByteArray) (⟨#[107, 32, 62, 32, 116]⟩ : ByteArray)).bind fun t218 => (zaf.l0 k t218 (([(⟨#[]⟩ : ByteArray), (⟨#[41]⟩ : ByteArray), (⟨#[40]⟩ : ByteArray), (⟨#[40, 118]⟩ : ByteArray), (⟨#[40, 41]⟩ : ByteArray), (⟨#[118, 32, 118]⟩ : ByteArray), (⟨#[45, 32]⟩ : ByteArray), (⟨#[110, 111, 116]⟩ : ByteArray), (⟨#[118, 32, 43, 32, 110, 111, 116, 32, 107]⟩ : ByteArray), (⟨#[45, 110, 111, 116, 32, 118]⟩ : ByteArray), (⟨#[118, 32, 42]⟩ : ByteArray), (⟨#[115, 101, 108, 101, 99, 116]⟩ : ByteArray), (⟨#[60, 32, 49]⟩ : ByteArray), (⟨#[118, 32, 60, 32, 110, 111, 116, 32, 107]⟩ : ByteArray), (⟨#[61, 32, 118]⟩ : ByteArray), (⟨#[107, 32, 97, 110, 100]⟩ : ByteArray), (⟨#[49, 32, 50]⟩ : ByteArray)] : List ByteArray)) (([0, 0, 1, 2, 1, (-1), 1, 1, 2, 1, 2, 0, 0, 2, 0, 2, (-1)] : List Int)) 0)) else (none))) else (none))) else (none))) else (none))) else (none))) else (none))) else (none))) else (none))) else (none))) else (none))) else (none)) = some r := H
    have A7 := zae.mk A70
    clear A70
    by_cases c8 : t207 = true
    ·subst c8
     have H1 : ((zab.f k (⟨#[45, 45, 118]⟩ : ByteArray) (⟨#[45, 32, 40, 45, 32, 118, 41]⟩ : ByteArray)).bind fun t208 => (if t208 = true then ((zab.f k (⟨#[45, 118, 32, 42, 32, 45, 50]⟩ : ByteArray) (⟨#[40, 45, 32, 118, 41, 32, 42, 32, 40, 45, 32, 50, 41]⟩ : ByteArray)).bind fun t209 => (if t209 = true then ((zab.f k (⟨#[110, 111, 116, 32, 110, 111, 116, 32, 118, 32, 60, 32, 49]⟩ : ByteArray) (⟨#[110, 111, 116, 32, 40, 110, 111, 116, 32, 40, 118, 32, 60, 32, 49, 41, 41]⟩ : ByteArray)).bind fun t210 => (if t210 = true then ((zab.f k (⟨#[107, 32, 61, 32, 49, 32, 111, 114, 32, 116, 32, 61, 32, 50, 32, 97, 110, 100, 32, 118, 32, 61, 32, 51]⟩ : ByteArray) (⟨#[40, 107, 32, 61, 32, 49, 41, 32, 111, 114, 32, 40, 40, 116, 32, 61, 32, 50, 41, 32, 97, 110, 100, 32, 40, 118, 32, 61, 32, 51, 41, 41]⟩ : ByteArray)).bind fun t211 => (if t211 = true then ((zab.f k (⟨#[49, 32, 43, 32, 50, 32, 60, 60, 32, 51, 32, 43, 32, 52]⟩ : ByteArray) (⟨#[40, 49, 32, 43, 32, 50, 41, 32, 60, 60, 32, 40, 51, 32, 43, 32, 52, 41]⟩ : ByteArray)).bind fun t212 => (if t212 = true then ((zab.f k (⟨#[40, 40, 118, 41, 41]⟩ : ByteArray) (⟨#[118]⟩ : ByteArray)).bind fun t213 => (if t213 = true then ((zab.f k (⟨#[118, 32, 62, 61, 32, 49, 32, 60, 60, 32, 50]⟩ : ByteArray) (⟨#[118, 32, 62, 61, 32, 40, 49, 32, 60, 60, 32, 50, 41]⟩ : ByteArray)).bind fun t214 => (if t214 = true then ((zab.f k (⟨#[40, 118, 32, 60, 32, 49, 41, 32, 33, 61, 32, 40, 107, 32, 60, 61, 32, 50, 41]⟩ : ByteArray) (⟨#[40, 118, 32, 60, 32, 49, 41, 32, 33, 61, 32, 40, 107, 32, 60, 61, 32, 50, 41]⟩ : ByteArray)).bind fun t215 => (if t215 = true then ((zab.f k (⟨#[107, 32, 111, 114, 32, 116, 32, 111, 114, 32, 118]⟩ : ByteArray) (⟨#[40, 107, 32, 111, 114, 32, 116, 41, 32, 111, 114, 32, 118]⟩ : ByteArray)).bind fun t216 => (if t216 = true then ((zab.f k (⟨#[45, 32, 40, 110, 111, 116, 32, 118, 41]⟩ : ByteArray) (⟨#[45, 32, 40, 110, 111, 116, 32, 118, 41]⟩ : ByteArray)).bind fun t217 => (if t217 = true then ((zab.f k (⟨#[107, 32, 62, 32, 116]⟩ : ByteArray) (⟨#[107, 32, 62, 32, 116]⟩ : ByteArray)).bind fun t218 => (zaf.l0 k t218 (([(⟨#[]⟩ : ByteArray), (⟨#[41]⟩ : ByteArray), (⟨#[40]⟩ : ByteArray), (⟨#[40, 118]⟩ : ByteArray), (⟨#[40, 41]⟩ : ByteArray), (⟨#[118, 32, 118]⟩ : ByteArray), (⟨#[45, 32]⟩ : ByteArray), (⟨#[110, 111, 116]⟩ : ByteArray), (⟨#[118, 32, 43, 32, 110, 111, 116, 32, 107]⟩ : ByteArray), (⟨#[45, 110, 111, 116, 32, 118]⟩ : ByteArray), (⟨#[118, 32, 42]⟩ : ByteArray), (⟨#[115, 101, 108, 101, 99, 116]⟩ : ByteArray), (⟨#[60, 32, 49]⟩ : ByteArray), (⟨#[118, 32, 60, 32, 110, 111, 116, 32, 107]⟩ : ByteArray), (⟨#[61, 32, 118]⟩ : ByteArray), (⟨#[107, 32, 97, 110, 100]⟩ : ByteArray), (⟨#[49, 32, 50]⟩ : ByteArray)] : List ByteArray)) (([0, 0, 1, 2, 1, (-1), 1, 1, 2, 1, 2, 0, 0, 2, 0, 2, (-1)] : List Int)) 0)) else (none))) else (none))) else (none))) else (none))) else (none))) else (none))) else (none))) else (none))) else (none))) else (none))) = some r := by rw [if_pos rfl] at H; exact H
     clear H
     have H := H1
     clear H1
     replace H := Option.bind_eq_some_iff.mp H
     obtain ⟨t208, A90, H⟩ := H
     replace H : (if t208 = true then ((zab.f k (⟨#[45, 118, 32, 42, 32, 45, 50]⟩ : ByteArray) (⟨#[40, 45, 32, 118, 41, 32, 42, 32, 40, 45, 32, 50, 41]⟩ : ByteArray)).bind fun t209 => (if t209 = true then ((zab.f k (⟨#[110, 111, 116, 32, 110, 111, 116, 32, 118, 32, 60, 32, 49]⟩ : ByteArray) (⟨#[110, 111, 116, 32, 40, 110, 111, 116, 32, 40, 118, 32, 60, 32, 49, 41, 41]⟩ : ByteArray)).bind fun t210 => (if t210 = true then ((zab.f k (⟨#[107, 32, 61, 32, 49, 32, 111, 114, 32, 116, 32, 61, 32, 50, 32, 97, 110, 100, 32, 118, 32, 61, 32, 51]⟩ : ByteArray) (⟨#[40, 107, 32, 61, 32, 49, 41, 32, 111, 114, 32, 40, 40, 116, 32, 61, 32, 50, 41, 32, 97, 110, 100, 32, 40, 118, 32, 61, 32, 51, 41, 41]⟩ : ByteArray)).bind fun t211 => (if t211 = true then ((zab.f k (⟨#[49, 32, 43, 32, 50, 32, 60, 60, 32, 51, 32, 43, 32, 52]⟩ : ByteArray) (⟨#[40, 49, 32, 43, 32, 50, 41, 32, 60, 60, 32, 40, 51, 32, 43, 32, 52, 41]⟩ : ByteArray)).bind fun t212 => (if t212 = true then ((zab.f k (⟨#[40, 40, 118, 41, 41]⟩ : ByteArray) (⟨#[118]⟩ : ByteArray)).bind fun t213 => (if t213 = true then ((zab.f k (⟨#[118, 32, 62, 61, 32, 49, 32, 60, 60, 32, 50]⟩ : ByteArray) (⟨#[118, 32, 62, 61, 32, 40, 49, 32, 60, 60, 32, 50, 41]⟩ : ByteArray)).bind fun t214 => (if t214 = true then ((zab.f k (⟨#[40, 118, 32, 60, 32, 49, 41, 32, 33, 61, 32, 40, 107, 32, 60, 61, 32, 50, 41]⟩ : ByteArray) (⟨#[40, 118, 32, 60, 32, 49, 41, 32, 33, 61, 32, 40, 107, 32, 60, 61, 32, 50, 41]⟩ : ByteArray)).bind fun t215 => (if t215 = true then ((zab.f k (⟨#[107, 32, 111, 114, 32, 116, 32, 111, 114, 32, 118]⟩ : ByteArray) (⟨#[40, 107, 32, 111, 114, 32, 116, 41, 32, 111, 114, 32, 118]⟩ : ByteArray)).bind fun t216 => (if t216 = true then ((zab.f k (⟨#[45, 32, 40, 110, 111, 116, 32, 118, 41]⟩ : ByteArray) (⟨#[45, 32, 40, 110, 111, 116, 32, 118, 41]⟩ : ByteArray)).bind fun t217 => (if t217 = true then ((zab.f k (⟨#[107, 32, 62, 32, 116]⟩ : ByteArray) (⟨#[107, 32, 62, 32, 116]⟩ : ByteArray)).bind fun t218 => (zaf.l0 k t218 (([(⟨#[]⟩ : ByteArray), (⟨#[41]⟩ : ByteArray), (⟨#[40]⟩ : ByteArray), (⟨#[40, 118]⟩ : ByteArray), (⟨#[40, 41]⟩ : ByteArray), (⟨#[118, 32, 118]⟩ : ByteArray), (⟨#[45, 32]⟩ : ByteArray), (⟨#[110, 111, 116]⟩ : ByteArray), (⟨#[118, 32, 43, 32, 110, 111, 116, 32, 107]⟩ : ByteArray), (⟨#[45, 110, 111, 116, 32, 118]⟩ : ByteArray), (⟨#[118, 32, 42]⟩ : ByteArray), (⟨#[115, 101, 108, 101, 99, 116]⟩ : ByteArray), (⟨#[60, 32, 49]⟩ : ByteArray), (⟨#[118, 32, 60, 32, 110, 111, 116, 32, 107]⟩ : ByteArray), (⟨#[61, 32, 118]⟩ : ByteArray), (⟨#[107, 32, 97, 110, 100]⟩ : ByteArray), (⟨#[49, 32, 50]⟩ : ByteArray)] : List ByteArray)) (([0, 0, 1, 2, 1, (-1), 1, 1, 2, 1, 2, 0, 0, 2, 0, 2, (-1)] : List Int)) 0)) else (none))) else (none))) else (none))) else (none))) else (none))) else (none))) else (none))) else (none))) else (none))) else (none)) = some r := H
     have A9 := zae.mk A90
     clear A90
     by_cases c10 : t208 = true
     ·subst c10
      have H1 : ((zab.f k (⟨#[45, 118, 32, 42, 32, 45, 50]⟩ : ByteArray) (⟨#[40, 45, 32, 118, 41, 32, 42, 32, 40, 45, 32, 50, 41]⟩ : ByteArray)).bind fun t209 => (if t209 = true then ((zab.f k (⟨#[110, 111, 116, 32, 110, 111, 116, 32, 118, 32, 60, 32, 49]⟩ : ByteArray) (⟨#[110, 111, 116, 32, 40, 110, 111, 116, 32, 40, 118, 32, 60, 32, 49, 41, 41]⟩ : ByteArray)).bind fun t210 => (if t210 = true then ((zab.f k (⟨#[107, 32, 61, 32, 49, 32, 111, 114, 32, 116, 32, 61, 32, 50, 32, 97, 110, 100, 32, 118, 32, 61, 32, 51]⟩ : ByteArray) (⟨#[40, 107, 32, 61, 32, 49, 41, 32, 111, 114, 32, 40, 40, 116, 32, 61, 32, 50, 41, 32, 97, 110, 100, 32, 40, 118, 32, 61, 32, 51, 41, 41]⟩ : ByteArray)).bind fun t211 => (if t211 = true then ((zab.f k (⟨#[49, 32, 43, 32, 50, 32, 60, 60, 32, 51, 32, 43, 32, 52]⟩ : ByteArray) (⟨#[40, 49, 32, 43, 32, 50, 41, 32, 60, 60, 32, 40, 51, 32, 43, 32, 52, 41]⟩ : ByteArray)).bind fun t212 => (if t212 = true then ((zab.f k (⟨#[40, 40, 118, 41, 41]⟩ : ByteArray) (⟨#[118]⟩ : ByteArray)).bind fun t213 => (if t213 = true then ((zab.f k (⟨#[118, 32, 62, 61, 32, 49, 32, 60, 60, 32, 50]⟩ : ByteArray) (⟨#[118, 32, 62, 61, 32, 40, 49, 32, 60, 60, 32, 50, 41]⟩ : ByteArray)).bind fun t214 => (if t214 = true then ((zab.f k (⟨#[40, 118, 32, 60, 32, 49, 41, 32, 33, 61, 32, 40, 107, 32, 60, 61, 32, 50, 41]⟩ : ByteArray) (⟨#[40, 118, 32, 60, 32, 49, 41, 32, 33, 61, 32, 40, 107, 32, 60, 61, 32, 50, 41]⟩ : ByteArray)).bind fun t215 => (if t215 = true then ((zab.f k (⟨#[107, 32, 111, 114, 32, 116, 32, 111, 114, 32, 118]⟩ : ByteArray) (⟨#[40, 107, 32, 111, 114, 32, 116, 41, 32, 111, 114, 32, 118]⟩ : ByteArray)).bind fun t216 => (if t216 = true then ((zab.f k (⟨#[45, 32, 40, 110, 111, 116, 32, 118, 41]⟩ : ByteArray) (⟨#[45, 32, 40, 110, 111, 116, 32, 118, 41]⟩ : ByteArray)).bind fun t217 => (if t217 = true then ((zab.f k (⟨#[107, 32, 62, 32, 116]⟩ : ByteArray) (⟨#[107, 32, 62, 32, 116]⟩ : ByteArray)).bind fun t218 => (zaf.l0 k t218 (([(⟨#[]⟩ : ByteArray), (⟨#[41]⟩ : ByteArray), (⟨#[40]⟩ : ByteArray), (⟨#[40, 118]⟩ : ByteArray), (⟨#[40, 41]⟩ : ByteArray), (⟨#[118, 32, 118]⟩ : ByteArray), (⟨#[45, 32]⟩ : ByteArray), (⟨#[110, 111, 116]⟩ : ByteArray), (⟨#[118, 32, 43, 32, 110, 111, 116, 32, 107]⟩ : ByteArray), (⟨#[45, 110, 111, 116, 32, 118]⟩ : ByteArray), (⟨#[118, 32, 42]⟩ : ByteArray), (⟨#[115, 101, 108, 101, 99, 116]⟩ : ByteArray), (⟨#[60, 32, 49]⟩ : ByteArray), (⟨#[118, 32, 60, 32, 110, 111, 116, 32, 107]⟩ : ByteArray), (⟨#[61, 32, 118]⟩ : ByteArray), (⟨#[107, 32, 97, 110, 100]⟩ : ByteArray), (⟨#[49, 32, 50]⟩ : ByteArray)] : List ByteArray)) (([0, 0, 1, 2, 1, (-1), 1, 1, 2, 1, 2, 0, 0, 2, 0, 2, (-1)] : List Int)) 0)) else (none))) else (none))) else (none))) else (none))) else (none))) else (none))) else (none))) else (none))) else (none))) = some r := by rw [if_pos rfl] at H; exact H
      clear H
      have H := H1
      clear H1
      replace H := Option.bind_eq_some_iff.mp H
      obtain ⟨t209, A110, H⟩ := H
      replace H : (if t209 = true then ((zab.f k (⟨#[110, 111, 116, 32, 110, 111, 116, 32, 118, 32, 60, 32, 49]⟩ : ByteArray) (⟨#[110, 111, 116, 32, 40, 110, 111, 116, 32, 40, 118, 32, 60, 32, 49, 41, 41]⟩ : ByteArray)).bind fun t210 => (if t210 = true then ((zab.f k (⟨#[107, 32, 61, 32, 49, 32, 111, 114, 32, 116, 32, 61, 32, 50, 32, 97, 110, 100, 32, 118, 32, 61, 32, 51]⟩ : ByteArray) (⟨#[40, 107, 32, 61, 32, 49, 41, 32, 111, 114, 32, 40, 40, 116, 32, 61, 32, 50, 41, 32, 97, 110, 100, 32, 40, 118, 32, 61, 32, 51, 41, 41]⟩ : ByteArray)).bind fun t211 => (if t211 = true then ((zab.f k (⟨#[49, 32, 43, 32, 50, 32, 60, 60, 32, 51, 32, 43, 32, 52]⟩ : ByteArray) (⟨#[40, 49, 32, 43, 32, 50, 41, 32, 60, 60, 32, 40, 51, 32, 43, 32, 52, 41]⟩ : ByteArray)).bind fun t212 => (if t212 = true then ((zab.f k (⟨#[40, 40, 118, 41, 41]⟩ : ByteArray) (⟨#[118]⟩ : ByteArray)).bind fun t213 => (if t213 = true then ((zab.f k (⟨#[118, 32, 62, 61, 32, 49, 32, 60, 60, 32, 50]⟩ : ByteArray) (⟨#[118, 32, 62, 61, 32, 40, 49, 32, 60, 60, 32, 50, 41]⟩ : ByteArray)).bind fun t214 => (if t214 = true then ((zab.f k (⟨#[40, 118, 32, 60, 32, 49, 41, 32, 33, 61, 32, 40, 107, 32, 60, 61, 32, 50, 41]⟩ : ByteArray) (⟨#[40, 118, 32, 60, 32, 49, 41, 32, 33, 61, 32, 40, 107, 32, 60, 61, 32, 50, 41]⟩ : ByteArray)).bind fun t215 => (if t215 = true then ((zab.f k (⟨#[107, 32, 111, 114, 32, 116, 32, 111, 114, 32, 118]⟩ : ByteArray) (⟨#[40, 107, 32, 111, 114, 32, 116, 41, 32, 111, 114, 32, 118]⟩ : ByteArray)).bind fun t216 => (if t216 = true then ((zab.f k (⟨#[45, 32, 40, 110, 111, 116, 32, 118, 41]⟩ : ByteArray) (⟨#[45, 32, 40, 110, 111, 116, 32, 118, 41]⟩ : ByteArray)).bind fun t217 => (if t217 = true then ((zab.f k (⟨#[107, 32, 62, 32, 116]⟩ : ByteArray) (⟨#[107, 32, 62, 32, 116]⟩ : ByteArray)).bind fun t218 => (zaf.l0 k t218 (([(⟨#[]⟩ : ByteArray), (⟨#[41]⟩ : ByteArray), (⟨#[40]⟩ : ByteArray), (⟨#[40, 118]⟩ : ByteArray), (⟨#[40, 41]⟩ : ByteArray), (⟨#[118, 32, 118]⟩ : ByteArray), (⟨#[45, 32]⟩ : ByteArray), (⟨#[110, 111, 116]⟩ : ByteArray), (⟨#[118, 32, 43, 32, 110, 111, 116, 32, 107]⟩ : ByteArray), (⟨#[45, 110, 111, 116, 32, 118]⟩ : ByteArray), (⟨#[118, 32, 42]⟩ : ByteArray), (⟨#[115, 101, 108, 101, 99, 116]⟩ : ByteArray), (⟨#[60, 32, 49]⟩ : ByteArray), (⟨#[118, 32, 60, 32, 110, 111, 116, 32, 107]⟩ : ByteArray), (⟨#[61, 32, 118]⟩ : ByteArray), (⟨#[107, 32, 97, 110, 100]⟩ : ByteArray), (⟨#[49, 32, 50]⟩ : ByteArray)] : List ByteArray)) (([0, 0, 1, 2, 1, (-1), 1, 1, 2, 1, 2, 0, 0, 2, 0, 2, (-1)] : List Int)) 0)) else (none))) else (none))) else (none))) else (none))) else (none))) else (none))) else (none))) else (none))) else (none)) = some r := H
      have A11 := zae.mk A110
      clear A110
      by_cases c12 : t209 = true
      ·subst c12
       have H1 : ((zab.f k (⟨#[110, 111, 116, 32, 110, 111, 116, 32, 118, 32, 60, 32, 49]⟩ : ByteArray) (⟨#[110, 111, 116, 32, 40, 110, 111, 116, 32, 40, 118, 32, 60, 32, 49, 41, 41]⟩ : ByteArray)).bind fun t210 => (if t210 = true then ((zab.f k (⟨#[107, 32, 61, 32, 49, 32, 111, 114, 32, 116, 32, 61, 32, 50, 32, 97, 110, 100, 32, 118, 32, 61, 32, 51]⟩ : ByteArray) (⟨#[40, 107, 32, 61, 32, 49, 41, 32, 111, 114, 32, 40, 40, 116, 32, 61, 32, 50, 41, 32, 97, 110, 100, 32, 40, 118, 32, 61, 32, 51, 41, 41]⟩ : ByteArray)).bind fun t211 => (if t211 = true then ((zab.f k (⟨#[49, 32, 43, 32, 50, 32, 60, 60, 32, 51, 32, 43, 32, 52]⟩ : ByteArray) (⟨#[40, 49, 32, 43, 32, 50, 41, 32, 60, 60, 32, 40, 51, 32, 43, 32, 52, 41]⟩ : ByteArray)).bind fun t212 => (if t212 = true then ((zab.f k (⟨#[40, 40, 118, 41, 41]⟩ : ByteArray) (⟨#[118]⟩ : ByteArray)).bind fun t213 => (if t213 = true then ((zab.f k (⟨#[118, 32, 62, 61, 32, 49, 32, 60, 60, 32, 50]⟩ : ByteArray) (⟨#[118, 32, 62, 61, 32, 40, 49, 32, 60, 60, 32, 50, 41]⟩ : ByteArray)).bind fun t214 => (if t214 = true then ((zab.f k (⟨#[40, 118, 32, 60, 32, 49, 41, 32, 33, 61, 32, 40, 107, 32, 60, 61, 32, 50, 41]⟩ : ByteArray) (⟨#[40, 118, 32, 60, 32, 49, 41, 32, 33, 61, 32, 40, 107, 32, 60, 61, 32, 50, 41]⟩ : ByteArray)).bind fun t215 => (if t215 = true then ((zab.f k (⟨#[107, 32, 111, 114, 32, 116, 32, 111, 114, 32, 118]⟩ : ByteArray) (⟨#[40, 107, 32, 111, 114, 32, 116, 41, 32, 111, 114, 32, 118]⟩ : ByteArray)).bind fun t216 => (if t216 = true then ((zab.f k (⟨#[45, 32, 40, 110, 111, 116, 32, 118, 41]⟩ : ByteArray) (⟨#[45, 32, 40, 110, 111, 116, 32, 118, 41]⟩ : ByteArray)).bind fun t217 => (if t217 = true then ((zab.f k (⟨#[107, 32, 62, 32, 116]⟩ : ByteArray) (⟨#[107, 32, 62, 32, 116]⟩ : ByteArray)).bind fun t218 => (zaf.l0 k t218 (([(⟨#[]⟩ : ByteArray), (⟨#[41]⟩ : ByteArray), (⟨#[40]⟩ : ByteArray), (⟨#[40, 118]⟩ : ByteArray), (⟨#[40, 41]⟩ : ByteArray), (⟨#[118, 32, 118]⟩ : ByteArray), (⟨#[45, 32]⟩ : ByteArray), (⟨#[110, 111, 116]⟩ : ByteArray), (⟨#[118, 32, 43, 32, 110, 111, 116, 32, 107]⟩ : ByteArray), (⟨#[45, 110, 111, 116, 32, 118]⟩ : ByteArray), (⟨#[118, 32, 42]⟩ : ByteArray), (⟨#[115, 101, 108, 101, 99, 116]⟩ : ByteArray), (⟨#[60, 32, 49]⟩ : ByteArray), (⟨#[118, 32, 60, 32, 110, 111, 116, 32, 107]⟩ : ByteArray), (⟨#[61, 32, 118]⟩ : ByteArray), (⟨#[107, 32, 97, 110, 100]⟩ : ByteArray), (⟨#[49, 32, 50]⟩ : ByteArray)] : List ByteArray)) (([0, 0, 1, 2, 1, (-1), 1, 1, 2, 1, 2, 0, 0, 2, 0, 2, (-1)] : List Int)) 0)) else (none))) else (none))) else (none))) else (none))) else (none))) else (none))) else (none))) else (none))) = some r := by rw [if_pos rfl] at H; exact H
       clear H
       have H := H1
       clear H1
       replace H := Option.bind_eq_some_iff.mp H
       obtain ⟨t210, A130, H⟩ := H
       replace H : (if t210 = true then ((zab.f k (⟨#[107, 32, 61, 32, 49, 32, 111, 114, 32, 116, 32, 61, 32, 50, 32, 97, 110, 100, 32, 118, 32, 61, 32, 51]⟩ : ByteArray) (⟨#[40, 107, 32, 61, 32, 49, 41, 32, 111, 114, 32, 40, 40, 116, 32, 61, 32, 50, 41, 32, 97, 110, 100, 32, 40, 118, 32, 61, 32, 51, 41, 41]⟩ : ByteArray)).bind fun t211 => (if t211 = true then ((zab.f k (⟨#[49, 32, 43, 32, 50, 32, 60, 60, 32, 51, 32, 43, 32, 52]⟩ : ByteArray) (⟨#[40, 49, 32, 43, 32, 50, 41, 32, 60, 60, 32, 40, 51, 32, 43, 32, 52, 41]⟩ : ByteArray)).bind fun t212 => (if t212 = true then ((zab.f k (⟨#[40, 40, 118, 41, 41]⟩ : ByteArray) (⟨#[118]⟩ : ByteArray)).bind fun t213 => (if t213 = true then ((zab.f k (⟨#[118, 32, 62, 61, 32, 49, 32, 60, 60, 32, 50]⟩ : ByteArray) (⟨#[118, 32, 62, 61, 32, 40, 49, 32, 60, 60, 32, 50, 41]⟩ : ByteArray)).bind fun t214 => (if t214 = true then ((zab.f k (⟨#[40, 118, 32, 60, 32, 49, 41, 32, 33, 61, 32, 40, 107, 32, 60, 61, 32, 50, 41]⟩ : ByteArray) (⟨#[40, 118, 32, 60, 32, 49, 41, 32, 33, 61, 32, 40, 107, 32, 60, 61, 32, 50, 41]⟩ : ByteArray)).bind fun t215 => (if t215 = true then ((zab.f k (⟨#[107, 32, 111, 114, 32, 116, 32, 111, 114, 32, 118]⟩ : ByteArray) (⟨#[40, 107, 32, 111, 114, 32, 116, 41, 32, 111, 114, 32, 118]⟩ : ByteArray)).bind fun t216 => (if t216 = true then ((zab.f k (⟨#[45, 32, 40, 110, 111, 116, 32, 118, 41]⟩ : ByteArray) (⟨#[45, 32, 40, 110, 111, 116, 32, 118, 41]⟩ : ByteArray)).bind fun t217 => (if t217 = true then ((zab.f k (⟨#[107, 32, 62, 32, 116]⟩ : ByteArray) (⟨#[107, 32, 62, 32, 116]⟩ : ByteArray)).bind fun t218 => (zaf.l0 k t218 (([(⟨#[]⟩ : ByteArray), (⟨#[41]⟩ : ByteArray), (⟨#[40]⟩ : ByteArray), (⟨#[40, 118]⟩ : ByteArray), (⟨#[40, 41]⟩ : ByteArray), (⟨#[118, 32, 118]⟩ : ByteArray), (⟨#[45, 32]⟩ : ByteArray), (⟨#[110, 111, 116]⟩ : ByteArray), (⟨#[118, 32, 43, 32, 110, 111, 116, 32, 107]⟩ : ByteArray), (⟨#[45, 110, 111, 116, 32, 118]⟩ : ByteArray), (⟨#[118, 32, 42]⟩ : ByteArray), (⟨#[115, 101, 108, 101, 99, 116]⟩ : ByteArray), (⟨#[60, 32, 49]⟩ : ByteArray), (⟨#[118, 32, 60, 32, 110, 111, 116, 32, 107]⟩ : ByteArray), (⟨#[61, 32, 118]⟩ : ByteArray), (⟨#[107, 32, 97, 110, 100]⟩ : ByteArray), (⟨#[49, 32, 50]⟩ : ByteArray)] : List ByteArray)) (([0, 0, 1, 2, 1, (-1), 1, 1, 2, 1, 2, 0, 0, 2, 0, 2, (-1)] : List Int)) 0)) else (none))) else (none))) else (none))) else (none))) else (none))) else (none))) else (none))) else (none)) = some r := H
       have A13 := zae.mk A130
       clear A130
       by_cases c14 : t210 = true
       ·subst c14
        have H1 : ((zab.f k (⟨#[107, 32, 61, 32, 49, 32, 111, 114, 32, 116, 32, 61, 32, 50, 32, 97, 110, 100, 32, 118, 32, 61, 32, 51]⟩ : ByteArray) (⟨#[40, 107, 32, 61, 32, 49, 41, 32, 111, 114, 32, 40, 40, 116, 32, 61, 32, 50, 41, 32, 97, 110, 100, 32, 40, 118, 32, 61, 32, 51, 41, 41]⟩ : ByteArray)).bind fun t211 => (if t211 = true then ((zab.f k (⟨#[49, 32, 43, 32, 50, 32, 60, 60, 32, 51, 32, 43, 32, 52]⟩ : ByteArray) (⟨#[40, 49, 32, 43, 32, 50, 41, 32, 60, 60, 32, 40, 51, 32, 43, 32, 52, 41]⟩ : ByteArray)).bind fun t212 => (if t212 = true then ((zab.f k (⟨#[40, 40, 118, 41, 41]⟩ : ByteArray) (⟨#[118]⟩ : ByteArray)).bind fun t213 => (if t213 = true then ((zab.f k (⟨#[118, 32, 62, 61, 32, 49, 32, 60, 60, 32, 50]⟩ : ByteArray) (⟨#[118, 32, 62, 61, 32, 40, 49, 32, 60, 60, 32, 50, 41]⟩ : ByteArray)).bind fun t214 => (if t214 = true then ((zab.f k (⟨#[40, 118, 32, 60, 32, 49, 41, 32, 33, 61, 32, 40, 107, 32, 60, 61, 32, 50, 41]⟩ : ByteArray) (⟨#[40, 118, 32, 60, 32, 49, 41, 32, 33, 61, 32, 40, 107, 32, 60, 61, 32, 50, 41]⟩ : ByteArray)).bind fun t215 => (if t215 = true then ((zab.f k (⟨#[107, 32, 111, 114, 32, 116, 32, 111, 114, 32, 118]⟩ : ByteArray) (⟨#[40, 107, 32, 111, 114, 32, 116, 41, 32, 111, 114, 32, 118]⟩ : ByteArray)).bind fun t216 => (if t216 = true then ((zab.f k (⟨#[45, 32, 40, 110, 111, 116, 32, 118, 41]⟩ : ByteArray) (⟨#[45, 32, 40, 110, 111, 116, 32, 118, 41]⟩ : ByteArray)).bind fun t217 => (if t217 = true then ((zab.f k (⟨#[107, 32, 62, 32, 116]⟩ : ByteArray) (⟨#[107, 32, 62, 32, 116]⟩ : ByteArray)).bind fun t218 => (zaf.l0 k t218 (([(⟨#[]⟩ : ByteArray), (⟨#[41]⟩ : ByteArray), (⟨#[40]⟩ : ByteArray), (⟨#[40, 118]⟩ : ByteArray), (⟨#[40, 41]⟩ : ByteArray), (⟨#[118, 32, 118]⟩ : ByteArray), (⟨#[45, 32]⟩ : ByteArray), (⟨#[110, 111, 116]⟩ : ByteArray), (⟨#[118, 32, 43, 32, 110, 111, 116, 32, 107]⟩ : ByteArray), (⟨#[45, 110, 111, 116, 32, 118]⟩ : ByteArray), (⟨#[118, 32, 42]⟩ : ByteArray), (⟨#[115, 101, 108, 101, 99, 116]⟩ : ByteArray), (⟨#[60, 32, 49]⟩ : ByteArray), (⟨#[118, 32, 60, 32, 110, 111, 116, 32, 107]⟩ : ByteArray), (⟨#[61, 32, 118]⟩ : ByteArray), (⟨#[107, 32, 97, 110, 100]⟩ : ByteArray), (⟨#[49, 32, 50]⟩ : ByteArray)] : List ByteArray)) (([0, 0, 1, 2, 1, (-1), 1, 1, 2, 1, 2, 0, 0, 2, 0, 2, (-1)] : List Int)) 0)) else (none))) else (none))) else (none))) else (none))) else (none))) else (none))) else (none))) = some r := by rw [if_pos rfl] at H; exact H
        clear H
        have H := H1
        clear H1
        replace H := Option.bind_eq_some_iff.mp H
        obtain ⟨t211, A150, H⟩ := H
        replace H : (if t211 = true then ((zab.f k (⟨#[49, 32, 43, 32, 50, 32, 60, 60, 32, 51, 32, 43, 32, 52]⟩ : ByteArray) (⟨#[40, 49, 32, 43, 32, 50, 41, 32, 60, 60, 32, 40, 51, 32, 43, 32, 52, 41]⟩ : ByteArray)).bind fun t212 => (if t212 = true then ((zab.f k (⟨#[40, 40, 118, 41, 41]⟩ : ByteArray) (⟨#[118]⟩ : ByteArray)).bind fun t213 => (if t213 = true then ((zab.f k (⟨#[118, 32, 62, 61, 32, 49, 32, 60, 60, 32, 50]⟩ : ByteArray) (⟨#[118, 32, 62, 61, 32, 40, 49, 32, 60, 60, 32, 50, 41]⟩ : ByteArray)).bind fun t214 => (if t214 = true then ((zab.f k (⟨#[40, 118, 32, 60, 32, 49, 41, 32, 33, 61, 32, 40, 107, 32, 60, 61, 32, 50, 41]⟩ : ByteArray) (⟨#[40, 118, 32, 60, 32, 49, 41, 32, 33, 61, 32, 40, 107, 32, 60, 61, 32, 50, 41]⟩ : ByteArray)).bind fun t215 => (if t215 = true then ((zab.f k (⟨#[107, 32, 111, 114, 32, 116, 32, 111, 114, 32, 118]⟩ : ByteArray) (⟨#[40, 107, 32, 111, 114, 32, 116, 41, 32, 111, 114, 32, 118]⟩ : ByteArray)).bind fun t216 => (if t216 = true then ((zab.f k (⟨#[45, 32, 40, 110, 111, 116, 32, 118, 41]⟩ : ByteArray) (⟨#[45, 32, 40, 110, 111, 116, 32, 118, 41]⟩ : ByteArray)).bind fun t217 => (if t217 = true then ((zab.f k (⟨#[107, 32, 62, 32, 116]⟩ : ByteArray) (⟨#[107, 32, 62, 32, 116]⟩ : ByteArray)).bind fun t218 => (zaf.l0 k t218 (([(⟨#[]⟩ : ByteArray), (⟨#[41]⟩ : ByteArray), (⟨#[40]⟩ : ByteArray), (⟨#[40, 118]⟩ : ByteArray), (⟨#[40, 41]⟩ : ByteArray), (⟨#[118, 32, 118]⟩ : ByteArray), (⟨#[45, 32]⟩ : ByteArray), (⟨#[110, 111, 116]⟩ : ByteArray), (⟨#[118, 32, 43, 32, 110, 111, 116, 32, 107]⟩ : ByteArray), (⟨#[45, 110, 111, 116, 32, 118]⟩ : ByteArray), (⟨#[118, 32, 42]⟩ : ByteArray), (⟨#[115, 101, 108, 101, 99, 116]⟩ : ByteArray), (⟨#[60, 32, 49]⟩ : ByteArray), (⟨#[118, 32, 60, 32, 110, 111, 116, 32, 107]⟩ : ByteArray), (⟨#[61, 32, 118]⟩ : ByteArray), (⟨#[107, 32, 97, 110, 100]⟩ : ByteArray), (⟨#[49, 32, 50]⟩ : ByteArray)] : List ByteArray)) (([0, 0, 1, 2, 1, (-1), 1, 1, 2, 1, 2, 0, 0, 2, 0, 2, (-1)] : List Int)) 0)) else (none))) else (none))) else (none))) else (none))) else (none))) else (none))) else (none)) = some r := H
        have A15 := zae.mk A150
        clear A150
        by_cases c16 : t211 = true
        ·subst c16
         have H1 : ((zab.f k (⟨#[49, 32, 43, 32, 50, 32, 60, 60, 32, 51, 32, 43, 32, 52]⟩ : ByteArray) (⟨#[40, 49, 32, 43, 32, 50, 41, 32, 60, 60, 32, 40, 51, 32, 43, 32, 52, 41]⟩ : ByteArray)).bind fun t212 => (if t212 = true then ((zab.f k (⟨#[40, 40, 118, 41, 41]⟩ : ByteArray) (⟨#[118]⟩ : ByteArray)).bind fun t213 => (if t213 = true then ((zab.f k (⟨#[118, 32, 62, 61, 32, 49, 32, 60, 60, 32, 50]⟩ : ByteArray) (⟨#[118, 32, 62, 61, 32, 40, 49, 32, 60, 60, 32, 50, 41]⟩ : ByteArray)).bind fun t214 => (if t214 = true then ((zab.f k (⟨#[40, 118, 32, 60, 32, 49, 41, 32, 33, 61, 32, 40, 107, 32, 60, 61, 32, 50, 41]⟩ : ByteArray) (⟨#[40, 118, 32, 60, 32, 49, 41, 32, 33, 61, 32, 40, 107, 32, 60, 61, 32, 50, 41]⟩ : ByteArray)).bind fun t215 => (if t215 = true then ((zab.f k (⟨#[107, 32, 111, 114, 32, 116, 32, 111, 114, 32, 118]⟩ : ByteArray) (⟨#[40, 107, 32, 111, 114, 32, 116, 41, 32, 111, 114, 32, 118]⟩ : ByteArray)).bind fun t216 => (if t216 = true then ((zab.f k (⟨#[45, 32, 40, 110, 111, 116, 32, 118, 41]⟩ : ByteArray) (⟨#[45, 32, 40, 110, 111, 116, 32, 118, 41]⟩ : ByteArray)).bind fun t217 => (if t217 = true then ((zab.f k (⟨#[107, 32, 62, 32, 116]⟩ : ByteArray) (⟨#[107, 32, 62, 32, 116]⟩ : ByteArray)).bind fun t218 => (zaf.l0 k t218 (([(⟨#[]⟩ : ByteArray), (⟨#[41]⟩ : ByteArray), (⟨#[40]⟩ : ByteArray), (⟨#[40, 118]⟩ : ByteArray), (⟨#[40, 41]⟩ : ByteArray), (⟨#[118, 32, 118]⟩ : ByteArray), (⟨#[45, 32]⟩ : ByteArray), (⟨#[110, 111, 116]⟩ : ByteArray), (⟨#[118, 32, 43, 32, 110, 111, 116, 32, 107]⟩ : ByteArray), (⟨#[45, 110, 111, 116, 32, 118]⟩ : ByteArray), (⟨#[118, 32, 42]⟩ : ByteArray), (⟨#[115, 101, 108, 101, 99, 116]⟩ : ByteArray), (⟨#[60, 32, 49]⟩ : ByteArray), (⟨#[118, 32, 60, 32, 110, 111, 116, 32, 107]⟩ : ByteArray), (⟨#[61, 32, 118]⟩ : ByteArray), (⟨#[107, 32, 97, 110, 100]⟩ : ByteArray), (⟨#[49, 32, 50]⟩ : ByteArray)] : List ByteArray)) (([0, 0, 1, 2, 1, (-1), 1, 1, 2, 1, 2, 0, 0, 2, 0, 2, (-1)] : List Int)) 0)) else (none))) else (none))) else (none))) else (none))) else (none))) else (none))) = some r := by rw [if_pos rfl] at H; exact H
         clear H
         have H := H1
         clear H1
         replace H := Option.bind_eq_some_iff.mp H
         obtain ⟨t212, A170, H⟩ := H
         replace H : (if t212 = true then ((zab.f k (⟨#[40, 40, 118, 41, 41]⟩ : ByteArray) (⟨#[118]⟩ : ByteArray)).bind fun t213 => (if t213 = true then ((zab.f k (⟨#[118, 32, 62, 61, 32, 49, 32, 60, 60, 32, 50]⟩ : ByteArray) (⟨#[118, 32, 62, 61, 32, 40, 49, 32, 60, 60, 32, 50, 41]⟩ : ByteArray)).bind fun t214 => (if t214 = true then ((zab.f k (⟨#[40, 118, 32, 60, 32, 49, 41, 32, 33, 61, 32, 40, 107, 32, 60, 61, 32, 50, 41]⟩ : ByteArray) (⟨#[40, 118, 32, 60, 32, 49, 41, 32, 33, 61, 32, 40, 107, 32, 60, 61, 32, 50, 41]⟩ : ByteArray)).bind fun t215 => (if t215 = true then ((zab.f k (⟨#[107, 32, 111, 114, 32, 116, 32, 111, 114, 32, 118]⟩ : ByteArray) (⟨#[40, 107, 32, 111, 114, 32, 116, 41, 32, 111, 114, 32, 118]⟩ : ByteArray)).bind fun t216 => (if t216 = true then ((zab.f k (⟨#[45, 32, 40, 110, 111, 116, 32, 118, 41]⟩ : ByteArray) (⟨#[45, 32, 40, 110, 111, 116, 32, 118, 41]⟩ : ByteArray)).bind fun t217 => (if t217 = true then ((zab.f k (⟨#[107, 32, 62, 32, 116]⟩ : ByteArray) (⟨#[107, 32, 62, 32, 116]⟩ : ByteArray)).bind fun t218 => (zaf.l0 k t218 (([(⟨#[]⟩ : ByteArray), (⟨#[41]⟩ : ByteArray), (⟨#[40]⟩ : ByteArray), (⟨#[40, 118]⟩ : ByteArray), (⟨#[40, 41]⟩ : ByteArray), (⟨#[118, 32, 118]⟩ : ByteArray), (⟨#[45, 32]⟩ : ByteArray), (⟨#[110, 111, 116]⟩ : ByteArray), (⟨#[118, 32, 43, 32, 110, 111, 116, 32, 107]⟩ : ByteArray), (⟨#[45, 110, 111, 116, 32, 118]⟩ : ByteArray), (⟨#[118, 32, 42]⟩ : ByteArray), (⟨#[115, 101, 108, 101, 99, 116]⟩ : ByteArray), (⟨#[60, 32, 49]⟩ : ByteArray), (⟨#[118, 32, 60, 32, 110, 111, 116, 32, 107]⟩ : ByteArray), (⟨#[61, 32, 118]⟩ : ByteArray), (⟨#[107, 32, 97, 110, 100]⟩ : ByteArray), (⟨#[49, 32, 50]⟩ : ByteArray)] : List ByteArray)) (([0, 0, 1, 2, 1, (-1), 1, 1, 2, 1, 2, 0, 0, 2, 0, 2, (-1)] : List Int)) 0)) else (none))) else (none))) else (none))) else (none))) else (none))) else (none)) = some r := H
         have A17 := zae.mk A170
         clear A170
         by_cases c18 : t212 = true
         ·subst c18
          have H1 : ((zab.f k (⟨#[40, 40, 118, 41, 41]⟩ : ByteArray) (⟨#[118]⟩ : ByteArray)).bind fun t213 => (if t213 = true then ((zab.f k (⟨#[118, 32, 62, 61, 32, 49, 32, 60, 60, 32, 50]⟩ : ByteArray) (⟨#[118, 32, 62, 61, 32, 40, 49, 32, 60, 60, 32, 50, 41]⟩ : ByteArray)).bind fun t214 => (if t214 = true then ((zab.f k (⟨#[40, 118, 32, 60, 32, 49, 41, 32, 33, 61, 32, 40, 107, 32, 60, 61, 32, 50, 41]⟩ : ByteArray) (⟨#[40, 118, 32, 60, 32, 49, 41, 32, 33, 61, 32, 40, 107, 32, 60, 61, 32, 50, 41]⟩ : ByteArray)).bind fun t215 => (if t215 = true then ((zab.f k (⟨#[107, 32, 111, 114, 32, 116, 32, 111, 114, 32, 118]⟩ : ByteArray) (⟨#[40, 107, 32, 111, 114, 32, 116, 41, 32, 111, 114, 32, 118]⟩ : ByteArray)).bind fun t216 => (if t216 = true then ((zab.f k (⟨#[45, 32, 40, 110, 111, 116, 32, 118, 41]⟩ : ByteArray) (⟨#[45, 32, 40, 110, 111, 116, 32, 118, 41]⟩ : ByteArray)).bind fun t217 => (if t217 = true then ((zab.f k (⟨#[107, 32, 62, 32, 116]⟩ : ByteArray) (⟨#[107, 32, 62, 32, 116]⟩ : ByteArray)).bind fun t218 => (zaf.l0 k t218 (([(⟨#[]⟩ : ByteArray), (⟨#[41]⟩ : ByteArray), (⟨#[40]⟩ : ByteArray), (⟨#[40, 118]⟩ : ByteArray), (⟨#[40, 41]⟩ : ByteArray), (⟨#[118, 32, 118]⟩ : ByteArray), (⟨#[45, 32]⟩ : ByteArray), (⟨#[110, 111, 116]⟩ : ByteArray), (⟨#[118, 32, 43, 32, 110, 111, 116, 32, 107]⟩ : ByteArray), (⟨#[45, 110, 111, 116, 32, 118]⟩ : ByteArray), (⟨#[118, 32, 42]⟩ : ByteArray), (⟨#[115, 101, 108, 101, 99, 116]⟩ : ByteArray), (⟨#[60, 32, 49]⟩ : ByteArray), (⟨#[118, 32, 60, 32, 110, 111, 116, 32, 107]⟩ : ByteArray), (⟨#[61, 32, 118]⟩ : ByteArray), (⟨#[107, 32, 97, 110, 100]⟩ : ByteArray), (⟨#[49, 32, 50]⟩ : ByteArray)] : List ByteArray)) (([0, 0, 1, 2, 1, (-1), 1, 1, 2, 1, 2, 0, 0, 2, 0, 2, (-1)] : List Int)) 0)) else (none))) else (none))) else (none))) else (none))) else (none))) = some r := by rw [if_pos rfl] at H; exact H
          clear H
          have H := H1
          clear H1
          replace H := Option.bind_eq_some_iff.mp H
          obtain ⟨t213, A190, H⟩ := H
          replace H : (if t213 = true then ((zab.f k (⟨#[118, 32, 62, 61, 32, 49, 32, 60, 60, 32, 50]⟩ : ByteArray) (⟨#[118, 32, 62, 61, 32, 40, 49, 32, 60, 60, 32, 50, 41]⟩ : ByteArray)).bind fun t214 => (if t214 = true then ((zab.f k (⟨#[40, 118, 32, 60, 32, 49, 41, 32, 33, 61, 32, 40, 107, 32, 60, 61, 32, 50, 41]⟩ : ByteArray) (⟨#[40, 118, 32, 60, 32, 49, 41, 32, 33, 61, 32, 40, 107, 32, 60, 61, 32, 50, 41]⟩ : ByteArray)).bind fun t215 => (if t215 = true then ((zab.f k (⟨#[107, 32, 111, 114, 32, 116, 32, 111, 114, 32, 118]⟩ : ByteArray) (⟨#[40, 107, 32, 111, 114, 32, 116, 41, 32, 111, 114, 32, 118]⟩ : ByteArray)).bind fun t216 => (if t216 = true then ((zab.f k (⟨#[45, 32, 40, 110, 111, 116, 32, 118, 41]⟩ : ByteArray) (⟨#[45, 32, 40, 110, 111, 116, 32, 118, 41]⟩ : ByteArray)).bind fun t217 => (if t217 = true then ((zab.f k (⟨#[107, 32, 62, 32, 116]⟩ : ByteArray) (⟨#[107, 32, 62, 32, 116]⟩ : ByteArray)).bind fun t218 => (zaf.l0 k t218 (([(⟨#[]⟩ : ByteArray), (⟨#[41]⟩ : ByteArray), (⟨#[40]⟩ : ByteArray), (⟨#[40, 118]⟩ : ByteArray), (⟨#[40, 41]⟩ : ByteArray), (⟨#[118, 32, 118]⟩ : ByteArray), (⟨#[45, 32]⟩ : ByteArray), (⟨#[110, 111, 116]⟩ : ByteArray), (⟨#[118, 32, 43, 32, 110, 111, 116, 32, 107]⟩ : ByteArray), (⟨#[45, 110, 111, 116, 32, 118]⟩ : ByteArray), (⟨#[118, 32, 42]⟩ : ByteArray), (⟨#[115, 101, 108, 101, 99, 116]⟩ : ByteArray), (⟨#[60, 32, 49]⟩ : ByteArray), (⟨#[118, 32, 60, 32, 110, 111, 116, 32, 107]⟩ : ByteArray), (⟨#[61, 32, 118]⟩ : ByteArray), (⟨#[107, 32, 97, 110, 100]⟩ : ByteArray), (⟨#[49, 32, 50]⟩ : ByteArray)] : List ByteArray)) (([0, 0, 1, 2, 1, (-1), 1, 1, 2, 1, 2, 0, 0, 2, 0, 2, (-1)] : List Int)) 0)) else (none))) else (none))) else (none))) else (none))) else (none)) = some r := H
          have A19 := zae.mk A190
          clear A190
          by_cases c20 : t213 = true
          ·subst c20
           have H1 : ((zab.f k (⟨#[118, 32, 62, 61, 32, 49, 32, 60, 60, 32, 50]⟩ : ByteArray) (⟨#[118, 32, 62, 61, 32, 40, 49, 32, 60, 60, 32, 50, 41]⟩ : ByteArray)).bind fun t214 => (if t214 = true then ((zab.f k (⟨#[40, 118, 32, 60, 32, 49, 41, 32, 33, 61, 32, 40, 107, 32, 60, 61, 32, 50, 41]⟩ : ByteArray) (⟨#[40, 118, 32, 60, 32, 49, 41, 32, 33, 61, 32, 40, 107, 32, 60, 61, 32, 50, 41]⟩ : ByteArray)).bind fun t215 => (if t215 = true then ((zab.f k (⟨#[107, 32, 111, 114, 32, 116, 32, 111, 114, 32, 118]⟩ : ByteArray) (⟨#[40, 107, 32, 111, 114, 32, 116, 41, 32, 111, 114, 32, 118]⟩ : ByteArray)).bind fun t216 => (if t216 = true then ((zab.f k (⟨#[45, 32, 40, 110, 111, 116, 32, 118, 41]⟩ : ByteArray) (⟨#[45, 32, 40, 110, 111, 116, 32, 118, 41]⟩ : ByteArray)).bind fun t217 => (if t217 = true then ((zab.f k (⟨#[107, 32, 62, 32, 116]⟩ : ByteArray) (⟨#[107, 32, 62, 32, 116]⟩ : ByteArray)).bind fun t218 => (zaf.l0 k t218 (([(⟨#[]⟩ : ByteArray), (⟨#[41]⟩ : ByteArray), (⟨#[40]⟩ : ByteArray), (⟨#[40, 118]⟩ : ByteArray), (⟨#[40, 41]⟩ : ByteArray), (⟨#[118, 32, 118]⟩ : ByteArray), (⟨#[45, 32]⟩ : ByteArray), (⟨#[110, 111, 116]⟩ : ByteArray), (⟨#[118, 32, 43, 32, 110, 111, 116, 32, 107]⟩ : ByteArray), (⟨#[45, 110, 111, 116, 32, 118]⟩ : ByteArray), (⟨#[118, 32, 42]⟩ : ByteArray), (⟨#[115, 101, 108, 101, 99, 116]⟩ : ByteArray), (⟨#[60, 32, 49]⟩ : ByteArray), (⟨#[118, 32, 60, 32, 110, 111, 116, 32, 107]⟩ : ByteArray), (⟨#[61, 32, 118]⟩ : ByteArray), (⟨#[107, 32, 97, 110, 100]⟩ : ByteArray), (⟨#[49, 32, 50]⟩ : ByteArray)] : List ByteArray)) (([0, 0, 1, 2, 1, (-1), 1, 1, 2, 1, 2, 0, 0, 2, 0, 2, (-1)] : List Int)) 0)) else (none))) else (none))) else (none))) else (none))) = some r := by rw [if_pos rfl] at H; exact H
           clear H
           have H := H1
           clear H1
           replace H := Option.bind_eq_some_iff.mp H
           obtain ⟨t214, A210, H⟩ := H
           replace H : (if t214 = true then ((zab.f k (⟨#[40, 118, 32, 60, 32, 49, 41, 32, 33, 61, 32, 40, 107, 32, 60, 61, 32, 50, 41]⟩ : ByteArray) (⟨#[40, 118, 32, 60, 32, 49, 41, 32, 33, 61, 32, 40, 107, 32, 60, 61, 32, 50, 41]⟩ : ByteArray)).bind fun t215 => (if t215 = true then ((zab.f k (⟨#[107, 32, 111, 114, 32, 116, 32, 111, 114, 32, 118]⟩ : ByteArray) (⟨#[40, 107, 32, 111, 114, 32, 116, 41, 32, 111, 114, 32, 118]⟩ : ByteArray)).bind fun t216 => (if t216 = true then ((zab.f k (⟨#[45, 32, 40, 110, 111, 116, 32, 118, 41]⟩ : ByteArray) (⟨#[45, 32, 40, 110, 111, 116, 32, 118, 41]⟩ : ByteArray)).bind fun t217 => (if t217 = true then ((zab.f k (⟨#[107, 32, 62, 32, 116]⟩ : ByteArray) (⟨#[107, 32, 62, 32, 116]⟩ : ByteArray)).bind fun t218 => (zaf.l0 k t218 (([(⟨#[]⟩ : ByteArray), (⟨#[41]⟩ : ByteArray), (⟨#[40]⟩ : ByteArray), (⟨#[40, 118]⟩ : ByteArray), (⟨#[40, 41]⟩ : ByteArray), (⟨#[118, 32, 118]⟩ : ByteArray), (⟨#[45, 32]⟩ : ByteArray), (⟨#[110, 111, 116]⟩ : ByteArray), (⟨#[118, 32, 43, 32, 110, 111, 116, 32, 107]⟩ : ByteArray), (⟨#[45, 110, 111, 116, 32, 118]⟩ : ByteArray), (⟨#[118, 32, 42]⟩ : ByteArray), (⟨#[115, 101, 108, 101, 99, 116]⟩ : ByteArray), (⟨#[60, 32, 49]⟩ : ByteArray), (⟨#[118, 32, 60, 32, 110, 111, 116, 32, 107]⟩ : ByteArray), (⟨#[61, 32, 118]⟩ : ByteArray), (⟨#[107, 32, 97, 110, 100]⟩ : ByteArray), (⟨#[49, 32, 50]⟩ : ByteArray)] : List ByteArray)) (([0, 0, 1, 2, 1, (-1), 1, 1, 2, 1, 2, 0, 0, 2, 0, 2, (-1)] : List Int)) 0)) else (none))) else (none))) else (none))) else (none)) = some r := H
           have A21 := zae.mk A210
           clear A210
           by_cases c22 : t214 = true
           ·subst c22
            have H1 : ((zab.f k (⟨#[40, 118, 32, 60, 32, 49, 41, 32, 33, 61, 32, 40, 107, 32, 60, 61, 32, 50, 41]⟩ : ByteArray) (⟨#[40, 118, 32, 60, 32, 49, 41, 32, 33, 61, 32, 40, 107, 32, 60, 61, 32, 50, 41]⟩ : ByteArray)).bind fun t215 => (if t215 = true then ((zab.f k (⟨#[107, 32, 111, 114, 32, 116, 32, 111, 114, 32, 118]⟩ : ByteArray) (⟨#[40, 107, 32, 111, 114, 32, 116, 41, 32, 111, 114, 32, 118]⟩ : ByteArray)).bind fun t216 => (if t216 = true then ((zab.f k (⟨#[45, 32, 40, 110, 111, 116, 32, 118, 41]⟩ : ByteArray) (⟨#[45, 32, 40, 110, 111, 116, 32, 118, 41]⟩ : ByteArray)).bind fun t217 => (if t217 = true then ((zab.f k (⟨#[107, 32, 62, 32, 116]⟩ : ByteArray) (⟨#[107, 32, 62, 32, 116]⟩ : ByteArray)).bind fun t218 => (zaf.l0 k t218 (([(⟨#[]⟩ : ByteArray), (⟨#[41]⟩ : ByteArray), (⟨#[40]⟩ : ByteArray), (⟨#[40, 118]⟩ : ByteArray), (⟨#[40, 41]⟩ : ByteArray), (⟨#[118, 32, 118]⟩ : ByteArray), (⟨#[45, 32]⟩ : ByteArray), (⟨#[110, 111, 116]⟩ : ByteArray), (⟨#[118, 32, 43, 32, 110, 111, 116, 32, 107]⟩ : ByteArray), (⟨#[45, 110, 111, 116, 32, 118]⟩ : ByteArray), (⟨#[118, 32, 42]⟩ : ByteArray), (⟨#[115, 101, 108, 101, 99, 116]⟩ : ByteArray), (⟨#[60, 32, 49]⟩ : ByteArray), (⟨#[118, 32, 60, 32, 110, 111, 116, 32, 107]⟩ : ByteArray), (⟨#[61, 32, 118]⟩ : ByteArray), (⟨#[107, 32, 97, 110, 100]⟩ : ByteArray), (⟨#[49, 32, 50]⟩ : ByteArray)] : List ByteArray)) (([0, 0, 1, 2, 1, (-1), 1, 1, 2, 1, 2, 0, 0, 2, 0, 2, (-1)] : List Int)) 0)) else (none))) else (none))) else (none))) = some r := by rw [if_pos rfl] at H; exact H
            clear H
            have H := H1
            clear H1
            replace H := Option.bind_eq_some_iff.mp H
            obtain ⟨t215, A230, H⟩ := H
            replace H : (if t215 = true then ((zab.f k (⟨#[107, 32, 111, 114, 32, 116, 32, 111, 114, 32, 118]⟩ : ByteArray) (⟨#[40, 107, 32, 111, 114, 32, 116, 41, 32, 111, 114, 32, 118]⟩ : ByteArray)).bind fun t216 => (if t216 = true then ((zab.f k (⟨#[45, 32, 40, 110, 111, 116, 32, 118, 41]⟩ : ByteArray) (⟨#[45, 32, 40, 110, 111, 116, 32, 118, 41]⟩ : ByteArray)).bind fun t217 => (if t217 = true then ((zab.f k (⟨#[107, 32, 62, 32, 116]⟩ : ByteArray) (⟨#[107, 32, 62, 32, 116]⟩ : ByteArray)).bind fun t218 => (zaf.l0 k t218 (([(⟨#[]⟩ : ByteArray), (⟨#[41]⟩ : ByteArray), (⟨#[40]⟩ : ByteArray), (⟨#[40, 118]⟩ : ByteArray), (⟨#[40, 41]⟩ : ByteArray), (⟨#[118, 32, 118]⟩ : ByteArray), (⟨#[45, 32]⟩ : ByteArray), (⟨#[110, 111, 116]⟩ : ByteArray), (⟨#[118, 32, 43, 32, 110, 111, 116, 32, 107]⟩ : ByteArray), (⟨#[45, 110, 111, 116, 32, 118]⟩ : ByteArray), (⟨#[118, 32, 42]⟩ : ByteArray), (⟨#[115, 101, 108, 101, 99, 116]⟩ : ByteArray), (⟨#[60, 32, 49]⟩ : ByteArray), (⟨#[118, 32, 60, 32, 110, 111, 116, 32, 107]⟩ : ByteArray), (⟨#[61, 32, 118]⟩ : ByteArray), (⟨#[107, 32, 97, 110, 100]⟩ : ByteArray), (⟨#[49, 32, 50]⟩ : ByteArray)] : List ByteArray)) (([0, 0, 1, 2, 1, (-1), 1, 1, 2, 1, 2, 0, 0, 2, 0, 2, (-1)] : List Int)) 0)) else (none))) else (none))) else (none)) = some r := H
            have A23 := zae.mk A230
            clear A230
            by_cases c24 : t215 = true
            ·subst c24
             have H1 : ((zab.f k (⟨#[107, 32, 111, 114, 32, 116, 32, 111, 114, 32, 118]⟩ : ByteArray) (⟨#[40, 107, 32, 111, 114, 32, 116, 41, 32, 111, 114, 32, 118]⟩ : ByteArray)).bind fun t216 => (if t216 = true then ((zab.f k (⟨#[45, 32, 40, 110, 111, 116, 32, 118, 41]⟩ : ByteArray) (⟨#[45, 32, 40, 110, 111, 116, 32, 118, 41]⟩ : ByteArray)).bind fun t217 => (if t217 = true then ((zab.f k (⟨#[107, 32, 62, 32, 116]⟩ : ByteArray) (⟨#[107, 32, 62, 32, 116]⟩ : ByteArray)).bind fun t218 => (zaf.l0 k t218 (([(⟨#[]⟩ : ByteArray), (⟨#[41]⟩ : ByteArray), (⟨#[40]⟩ : ByteArray), (⟨#[40, 118]⟩ : ByteArray), (⟨#[40, 41]⟩ : ByteArray), (⟨#[118, 32, 118]⟩ : ByteArray), (⟨#[45, 32]⟩ : ByteArray), (⟨#[110, 111, 116]⟩ : ByteArray), (⟨#[118, 32, 43, 32, 110, 111, 116, 32, 107]⟩ : ByteArray), (⟨#[45, 110, 111, 116, 32, 118]⟩ : ByteArray), (⟨#[118, 32, 42]⟩ : ByteArray), (⟨#[115, 101, 108, 101, 99, 116]⟩ : ByteArray), (⟨#[60, 32, 49]⟩ : ByteArray), (⟨#[118, 32, 60, 32, 110, 111, 116, 32, 107]⟩ : ByteArray), (⟨#[61, 32, 118]⟩ : ByteArray), (⟨#[107, 32, 97, 110, 100]⟩ : ByteArray), (⟨#[49, 32, 50]⟩ : ByteArray)] : List ByteArray)) (([0, 0, 1, 2, 1, (-1), 1, 1, 2, 1, 2, 0, 0, 2, 0, 2, (-1)] : List Int)) 0)) else (none))) else (none))) = some r := by rw [if_pos rfl] at H; exact H
             clear H
             have H := H1
             clear H1
             replace H := Option.bind_eq_some_iff.mp H
             obtain ⟨t216, A250, H⟩ := H
             replace H : (if t216 = true then ((zab.f k (⟨#[45, 32, 40, 110, 111, 116, 32, 118, 41]⟩ : ByteArray) (⟨#[45, 32, 40, 110, 111, 116, 32, 118, 41]⟩ : ByteArray)).bind fun t217 => (if t217 = true then ((zab.f k (⟨#[107, 32, 62, 32, 116]⟩ : ByteArray) (⟨#[107, 32, 62, 32, 116]⟩ : ByteArray)).bind fun t218 => (zaf.l0 k t218 (([(⟨#[]⟩ : ByteArray), (⟨#[41]⟩ : ByteArray), (⟨#[40]⟩ : ByteArray), (⟨#[40, 118]⟩ : ByteArray), (⟨#[40, 41]⟩ : ByteArray), (⟨#[118, 32, 118]⟩ : ByteArray), (⟨#[45, 32]⟩ : ByteArray), (⟨#[110, 111, 116]⟩ : ByteArray), (⟨#[118, 32, 43, 32, 110, 111, 116, 32, 107]⟩ : ByteArray), (⟨#[45, 110, 111, 116, 32, 118]⟩ : ByteArray), (⟨#[118, 32, 42]⟩ : ByteArray), (⟨#[115, 101, 108, 101, 99, 116]⟩ : ByteArray), (⟨#[60, 32, 49]⟩ : ByteArray), (⟨#[118, 32, 60, 32, 110, 111, 116, 32, 107]⟩ : ByteArray), (⟨#[61, 32, 118]⟩ : ByteArray), (⟨#[107, 32, 97, 110, 100]⟩ : ByteArray), (⟨#[49, 32, 50]⟩ : ByteArray)] : List ByteArray)) (([0, 0, 1, 2, 1, (-1), 1, 1, 2, 1, 2, 0, 0, 2, 0, 2, (-1)] : List Int)) 0)) else (none))) else (none)) = some r := H
             have A25 := zae.mk A250
             clear A250
             by_cases c26 : t216 = true
             ·subst c26
              have H1 : ((zab.f k (⟨#[45, 32, 40, 110, 111, 116, 32, 118, 41]⟩ : ByteArray) (⟨#[45, 32, 40, 110, 111, 116, 32, 118, 41]⟩ : ByteArray)).bind fun t217 => (if t217 = true then ((zab.f k (⟨#[107, 32, 62, 32, 116]⟩ : ByteArray) (⟨#[107, 32, 62, 32, 116]⟩ : ByteArray)).bind fun t218 => (zaf.l0 k t218 (([(⟨#[]⟩ : ByteArray), (⟨#[41]⟩ : ByteArray), (⟨#[40]⟩ : ByteArray), (⟨#[40, 118]⟩ : ByteArray), (⟨#[40, 41]⟩ : ByteArray), (⟨#[118, 32, 118]⟩ : ByteArray), (⟨#[45, 32]⟩ : ByteArray), (⟨#[110, 111, 116]⟩ : ByteArray), (⟨#[118, 32, 43, 32, 110, 111, 116, 32, 107]⟩ : ByteArray), (⟨#[45, 110, 111, 116, 32, 118]⟩ : ByteArray), (⟨#[118, 32, 42]⟩ : ByteArray), (⟨#[115, 101, 108, 101, 99, 116]⟩ : ByteArray), (⟨#[60, 32, 49]⟩ : ByteArray), (⟨#[118, 32, 60, 32, 110, 111, 116, 32, 107]⟩ : ByteArray), (⟨#[61, 32, 118]⟩ : ByteArray), (⟨#[107, 32, 97, 110, 100]⟩ : ByteArray), (⟨#[49, 32, 50]⟩ : ByteArray)] : List ByteArray)) (([0, 0, 1, 2, 1, (-1), 1, 1, 2, 1, 2, 0, 0, 2, 0, 2, (-1)] : List Int)) 0)) else (none))) = some r := by rw [if_pos rfl] at H; exact H
              clear H
              have H := H1
              clear H1
              replace H := Option.bind_eq_some_iff.mp H
              obtain ⟨t217, A270, H⟩ := H
              replace H : (if t217 = true then ((zab.f k (⟨#[107, 32, 62, 32, 116]⟩ : ByteArray) (⟨#[107, 32, 62, 32, 116]⟩ : ByteArray)).bind fun t218 => (zaf.l0 k t218 (([(⟨#[]⟩ : ByteArray), (⟨#[41]⟩ : ByteArray), (⟨#[40]⟩ : ByteArray), (⟨#[40, 118]⟩ : ByteArray), (⟨#[40, 41]⟩ : ByteArray), (⟨#[118, 32, 118]⟩ : ByteArray), (⟨#[45, 32]⟩ : ByteArray), (⟨#[110, 111, 116]⟩ : ByteArray), (⟨#[118, 32, 43, 32, 110, 111, 116, 32, 107]⟩ : ByteArray), (⟨#[45, 110, 111, 116, 32, 118]⟩ : ByteArray), (⟨#[118, 32, 42]⟩ : ByteArray), (⟨#[115, 101, 108, 101, 99, 116]⟩ : ByteArray), (⟨#[60, 32, 49]⟩ : ByteArray), (⟨#[118, 32, 60, 32, 110, 111, 116, 32, 107]⟩ : ByteArray), (⟨#[61, 32, 118]⟩ : ByteArray), (⟨#[107, 32, 97, 110, 100]⟩ : ByteArray), (⟨#[49, 32, 50]⟩ : ByteArray)] : List ByteArray)) (([0, 0, 1, 2, 1, (-1), 1, 1, 2, 1, 2, 0, 0, 2, 0, 2, (-1)] : List Int)) 0)) else (none)) = some r := H
              have A27 := zae.mk A270
              clear A270
              by_cases c28 : t217 = true
              ·subst c28
               have H1 : ((zab.f k (⟨#[107, 32, 62, 32, 116]⟩ : ByteArray) (⟨#[107, 32, 62, 32, 116]⟩ : ByteArray)).bind fun t218 => (zaf.l0 k t218 (([(⟨#[]⟩ : ByteArray), (⟨#[41]⟩ : ByteArray), (⟨#[40]⟩ : ByteArray), (⟨#[40, 118]⟩ : ByteArray), (⟨#[40, 41]⟩ : ByteArray), (⟨#[118, 32, 118]⟩ : ByteArray), (⟨#[45, 32]⟩ : ByteArray), (⟨#[110, 111, 116]⟩ : ByteArray), (⟨#[118, 32, 43, 32, 110, 111, 116, 32, 107]⟩ : ByteArray), (⟨#[45, 110, 111, 116, 32, 118]⟩ : ByteArray), (⟨#[118, 32, 42]⟩ : ByteArray), (⟨#[115, 101, 108, 101, 99, 116]⟩ : ByteArray), (⟨#[60, 32, 49]⟩ : ByteArray), (⟨#[118, 32, 60, 32, 110, 111, 116, 32, 107]⟩ : ByteArray), (⟨#[61, 32, 118]⟩ : ByteArray), (⟨#[107, 32, 97, 110, 100]⟩ : ByteArray), (⟨#[49, 32, 50]⟩ : ByteArray)] : List ByteArray)) (([0, 0, 1, 2, 1, (-1), 1, 1, 2, 1, 2, 0, 0, 2, 0, 2, (-1)] : List Int)) 0)) = some r := by rw [if_pos rfl] at H; exact H
               clear H
               have H := H1
               clear H1
               replace H := Option.bind_eq_some_iff.mp H
               obtain ⟨t218, A290, H⟩ := H
               replace H : (zaf.l0 k t218 (([(⟨#[]⟩ : ByteArray), (⟨#[41]⟩ : ByteArray), (⟨#[40]⟩ : ByteArray), (⟨#[40, 118]⟩ : ByteArray), (⟨#[40, 41]⟩ : ByteArray), (⟨#[118, 32, 118]⟩ : ByteArray), (⟨#[45, 32]⟩ : ByteArray), (⟨#[110, 111, 116]⟩ : ByteArray), (⟨#[118, 32, 43, 32, 110, 111, 116, 32, 107]⟩ : ByteArray), (⟨#[45, 110, 111, 116, 32, 118]⟩ : ByteArray), (⟨#[118, 32, 42]⟩ : ByteArray), (⟨#[115, 101, 108, 101, 99, 116]⟩ : ByteArray), (⟨#[60, 32, 49]⟩ : ByteArray), (⟨#[118, 32, 60, 32, 110, 111, 116, 32, 107]⟩ : ByteArray), (⟨#[61, 32, 118]⟩ : ByteArray), (⟨#[107, 32, 97, 110, 100]⟩ : ByteArray), (⟨#[49, 32, 50]⟩ : ByteArray)] : List ByteArray)) (([0, 0, 1, 2, 1, (-1), 1, 1, 2, 1, 2, 0, 0, 2, 0, 2, (-1)] : List Int)) 0) = some r := H
               have A29 := zae.mk A290
               clear A290
               obtain ⟨y219, hy219⟩ : ∃ y_ : List ByteArray, y_ = (([(⟨#[]⟩ : ByteArray), (⟨#[41]⟩ : ByteArray), (⟨#[40]⟩ : ByteArray), (⟨#[40, 118]⟩ : ByteArray), (⟨#[40, 41]⟩ : ByteArray), (⟨#[118, 32, 118]⟩ : ByteArray), (⟨#[45, 32]⟩ : ByteArray), (⟨#[110, 111, 116]⟩ : ByteArray), (⟨#[118, 32, 43, 32, 110, 111, 116, 32, 107]⟩ : ByteArray), (⟨#[45, 110, 111, 116, 32, 118]⟩ : ByteArray), (⟨#[118, 32, 42]⟩ : ByteArray), (⟨#[115, 101, 108, 101, 99, 116]⟩ : ByteArray), (⟨#[60, 32, 49]⟩ : ByteArray), (⟨#[118, 32, 60, 32, 110, 111, 116, 32, 107]⟩ : ByteArray), (⟨#[61, 32, 118]⟩ : ByteArray), (⟨#[107, 32, 97, 110, 100]⟩ : ByteArray), (⟨#[49, 32, 50]⟩ : ByteArray)] : List ByteArray)) := ⟨_, rfl⟩
               replace H : (zaf.l0 k t218 y219 (([0, 0, 1, 2, 1, (-1), 1, 1, 2, 1, 2, 0, 0, 2, 0, 2, (-1)] : List Int)) 0) = some r := by first | (rw [hy219]; with_reducible exact H) | (have H2_ := (Option.bind_some _ _).symm.trans H; rw [hy219]; with_reducible exact H2_) | (have H2_ := (Option.bind_some _ _).symm.trans H; with_reducible exact H2_) | with_reducible exact H | (rw [hy219]; exact H) | exact H
               have Ny219 := zae.mk hy219
               clear hy219
               obtain ⟨y222, hy222⟩ : ∃ y_ : List Int, y_ = (([0, 0, 1, 2, 1, (-1), 1, 1, 2, 1, 2, 0, 0, 2, 0, 2, (-1)] : List Int)) := ⟨_, rfl⟩
               replace H : (zaf.l0 k t218 y219 y222 0) = some r := by first | (rw [hy222]; with_reducible exact H) | (have H2_ := (Option.bind_some _ _).symm.trans H; rw [hy222]; with_reducible exact H2_) | (have H2_ := (Option.bind_some _ _).symm.trans H; with_reducible exact H2_) | with_reducible exact H | (rw [hy222]; exact H) | exact H
               have Ny222 := zae.mk hy222
               clear hy222
               have H' := zae.mk H
               clear H
               go_enter Tryz.func3, Tryz.ntmps3
               go_wp2_with (first | ((with_reducible refine zar (f := 8) rfl ?_); refine za6 (some 45) rfl rfl Tryz.func8 (by kernel_rfl) rfl #[.string (⟨#[48, 48, 55]⟩ : ByteArray), .string (⟨#[55]⟩ : ByteArray)] rfl (by (try simp only [List.map_toArray, List.map_cons, List.map_nil]); first | done | rfl | (simp only [List.length_drop, List.length_take]; rfl)) ?_; (with_reducible refine (zab.calls k (⟨#[48, 48, 55]⟩ : ByteArray) (⟨#[55]⟩ : ByteArray) true _ ?side1 A1.out).mono ?_); (case side1 => exact Tabs.below hT (by repeat (first | (with_reducible first | exact HB.out | apply zac | apply zaa | apply zad) | exact HB.out))); rintro e w30 ⟨rfl, hb⟩; refine ⟨_, rfl, ?_⟩; have n0_ := zae.mk (zaj (by repeat (first | (with_reducible first | exact HB.out | apply zac | apply zaa | apply zad) | exact HB.out)) hb); clear HB; have HB := n0_; clear n0_; (try clear hb); (try clear hb2); (try clear hk); (try clear hi)) | (go_at_call 8; (with_reducible refine (zab.calls k (⟨#[116]⟩ : ByteArray) (⟨#[116]⟩ : ByteArray) true _ ?side1 A3.out).mono ?_); (case side1 => exact Tabs.below hT (by repeat (first | (with_reducible first | exact HB.out | apply zac | apply zaa | apply zad) | exact HB.out))); rintro e w31 ⟨rfl, hb⟩; have n0_ := zae.mk (zaj (by repeat (first | (with_reducible first | exact HB.out | apply zac | apply zaa | apply zad) | exact HB.out)) hb); clear HB; have HB := n0_; clear n0_; (try clear hb); (try clear hb2); (try clear hk); (try clear hi)) | (go_at_call 8; (with_reducible refine (zab.calls k (⟨#[107, 32, 45, 32, 116, 32, 45, 32, 118]⟩ : ByteArray) (⟨#[40, 107, 32, 45, 32, 116, 41, 32, 45, 32, 118]⟩ : ByteArray) true _ ?side1 A5.out).mono ?_); (case side1 => exact Tabs.below hT (by repeat (first | (with_reducible first | exact HB.out | apply zac | apply zaa | apply zad) | exact HB.out))); rintro e w32 ⟨rfl, hb⟩; have n0_ := zae.mk (zaj (by repeat (first | (with_reducible first | exact HB.out | apply zac | apply zaa | apply zad) | exact HB.out)) hb); clear HB; have HB := n0_; clear n0_; (try clear hb); (try clear hb2); (try clear hk); (try clear hi)) | (go_at_call 8; (with_reducible refine (zab.calls k (⟨#[107, 32, 60, 60, 32, 49, 32, 62, 62, 32, 50]⟩ : ByteArray) (⟨#[40, 107, 32, 60, 60, 32, 49, 41, 32, 62, 62, 32, 50]⟩ : ByteArray) true _ ?side1 A7.out).mono ?_); (case side1 => exact Tabs.below hT (by repeat (first | (with_reducible first | exact HB.out | apply zac | apply zaa | apply zad) | exact HB.out))); rintro e w33 ⟨rfl, hb⟩; have n0_ := zae.mk (zaj (by repeat (first | (with_reducible first | exact HB.out | apply zac | apply zaa | apply zad) | exact HB.out)) hb); clear HB; have HB := n0_; clear n0_; (try clear hb); (try clear hb2); (try clear hk); (try clear hi)) | (go_at_call 8; (with_reducible refine (zab.calls k (⟨#[45, 45, 118]⟩ : ByteArray) (⟨#[45, 32, 40, 45, 32, 118, 41]⟩ : ByteArray) true _ ?side1 A9.out).mono ?_); (case side1 => exact Tabs.below hT (by repeat (first | (with_reducible first | exact HB.out | apply zac | apply zaa | apply zad) | exact HB.out))); rintro e w34 ⟨rfl, hb⟩; have n0_ := zae.mk (zaj (by repeat (first | (with_reducible first | exact HB.out | apply zac | apply zaa | apply zad) | exact HB.out)) hb); clear HB; have HB := n0_; clear n0_; (try clear hb); (try clear hb2); (try clear hk); (try clear hi)) | (go_at_call 8; (with_reducible refine (zab.calls k (⟨#[45, 118, 32, 42, 32, 45, 50]⟩ : ByteArray) (⟨#[40, 45, 32, 118, 41, 32, 42, 32, 40, 45, 32, 50, 41]⟩ : ByteArray) true _ ?side1 A11.out).mono ?_); (case side1 => exact Tabs.below hT (by repeat (first | (with_reducible first | exact HB.out | apply zac | apply zaa | apply zad) | exact HB.out))); rintro e w35 ⟨rfl, hb⟩; have n0_ := zae.mk (zaj (by repeat (first | (with_reducible first | exact HB.out | apply zac | apply zaa | apply zad) | exact HB.out)) hb); clear HB; have HB := n0_; clear n0_; (try clear hb); (try clear hb2); (try clear hk); (try clear hi)) | (go_at_call 8; (with_reducible refine (zab.calls k (⟨#[110, 111, 116, 32, 110, 111, 116, 32, 118, 32, 60, 32, 49]⟩ : ByteArray) (⟨#[110, 111, 116, 32, 40, 110, 111, 116, 32, 40, 118, 32, 60, 32, 49, 41, 41]⟩ : ByteArray) true _ ?side1 A13.out).mono ?_); (case side1 => exact Tabs.below hT (by repeat (first | (with_reducible first | exact HB.out | apply zac | apply zaa | apply zad) | exact HB.out))); rintro e w36 ⟨rfl, hb⟩; have n0_ := zae.mk (zaj (by repeat (first | (with_reducible first | exact HB.out | apply zac | apply zaa | apply zad) | exact HB.out)) hb); clear HB; have HB := n0_; clear n0_; (try clear hb); (try clear hb2); (try clear hk); (try clear hi)) | (go_at_call 8; (with_reducible refine (zab.calls k (⟨#[107, 32, 61, 32, 49, 32, 111, 114, 32, 116, 32, 61, 32, 50, 32, 97, 110, 100, 32, 118, 32, 61, 32, 51]⟩ : ByteArray) (⟨#[40, 107, 32, 61, 32, 49, 41, 32, 111, 114, 32, 40, 40, 116, 32, 61, 32, 50, 41, 32, 97, 110, 100, 32, 40, 118, 32, 61, 32, 51, 41, 41]⟩ : ByteArray) true _ ?side1 A15.out).mono ?_); (case side1 => exact Tabs.below hT (by repeat (first | (with_reducible first | exact HB.out | apply zac | apply zaa | apply zad) | exact HB.out))); rintro e w37 ⟨rfl, hb⟩; have n0_ := zae.mk (zaj (by repeat (first | (with_reducible first | exact HB.out | apply zac | apply zaa | apply zad) | exact HB.out)) hb); clear HB; have HB := n0_; clear n0_; (try clear hb); (try clear hb2); (try clear hk); (try clear hi)) | (go_at_call 8; (with_reducible refine (zab.calls k (⟨#[49, 32, 43, 32, 50, 32, 60, 60, 32, 51, 32, 43, 32, 52]⟩ : ByteArray) (⟨#[40, 49, 32, 43, 32, 50, 41, 32, 60, 60, 32, 40, 51, 32, 43, 32, 52, 41]⟩ : ByteArray) true _ ?side1 A17.out).mono ?_); (case side1 => exact Tabs.below hT (by repeat (first | (with_reducible first | exact HB.out | apply zac | apply zaa | apply zad) | exact HB.out))); rintro e w38 ⟨rfl, hb⟩; have n0_ := zae.mk (zaj (by repeat (first | (with_reducible first | exact HB.out | apply zac | apply zaa | apply zad) | exact HB.out)) hb); clear HB; have HB := n0_; clear n0_; (try clear hb); (try clear hb2); (try clear hk); (try clear hi)) | (go_at_call 8; (with_reducible refine (zab.calls k (⟨#[40, 40, 118, 41, 41]⟩ : ByteArray) (⟨#[118]⟩ : ByteArray) true _ ?side1 A19.out).mono ?_); (case side1 => exact Tabs.below hT (by repeat (first | (with_reducible first | exact HB.out | apply zac | apply zaa | apply zad) | exact HB.out))); rintro e w39 ⟨rfl, hb⟩; have n0_ := zae.mk (zaj (by repeat (first | (with_reducible first | exact HB.out | apply zac | apply zaa | apply zad) | exact HB.out)) hb); clear HB; have HB := n0_; clear n0_; (try clear hb); (try clear hb2); (try clear hk); (try clear hi)) | (go_at_call 8; (with_reducible refine (zab.calls k (⟨#[118, 32, 62, 61, 32, 49, 32, 60, 60, 32, 50]⟩ : ByteArray) (⟨#[118, 32, 62, 61, 32, 40, 49, 32, 60, 60, 32, 50, 41]⟩ : ByteArray) true _ ?side1 A21.out).mono ?_); (case side1 => exact Tabs.below hT (by repeat (first | (with_reducible first | exact HB.out | apply zac | apply zaa | apply zad) | exact HB.out))); rintro e w40 ⟨rfl, hb⟩; have n0_ := zae.mk (zaj (by repeat (first | (with_reducible first | exact HB.out | apply zac | apply zaa | apply zad) | exact HB.out)) hb); clear HB; have HB := n0_; clear n0_; (try clear hb); (try clear hb2); (try clear hk); (try clear hi)) | (go_at_call 8; (with_reducible refine (zab.calls k (⟨#[40, 118, 32, 60, 32, 49, 41, 32, 33, 61, 32, 40, 107, 32, 60, 61, 32, 50, 41]⟩ : ByteArray) (⟨#[40, 118, 32, 60, 32, 49, 41, 32, 33, 61, 32, 40, 107, 32, 60, 61, 32, 50, 41]⟩ : ByteArray) true _ ?side1 A23.out).mono ?_); (case side1 => exact Tabs.below hT (by repeat (first | (with_reducible first | exact HB.out | apply zac | apply zaa | apply zad) | exact HB.out))); rintro e w41 ⟨rfl, hb⟩; have n0_ := zae.mk (zaj (by repeat (first | (with_reducible first | exact HB.out | apply zac | apply zaa | apply zad) | exact HB.out)) hb); clear HB; have HB := n0_; clear n0_; (try clear hb); (try clear hb2); (try clear hk); (try clear hi)) | (go_at_call 8; (with_reducible refine (zab.calls k (⟨#[107, 32, 111, 114, 32, 116, 32, 111, 114, 32, 118]⟩ : ByteArray) (⟨#[40, 107, 32, 111, 114, 32, 116, 41, 32, 111, 114, 32, 118]⟩ : ByteArray) true _ ?side1 A25.out).mono ?_); (case side1 => exact Tabs.below hT (by repeat (first | (with_reducible first | exact HB.out | apply zac | apply zaa | apply zad) | exact HB.out))); rintro e w42 ⟨rfl, hb⟩; have n0_ := zae.mk (zaj (by repeat (first | (with_reducible first | exact HB.out | apply zac | apply zaa | apply zad) | exact HB.out)) hb); clear HB; have HB := n0_; clear n0_; (try clear hb); (try clear hb2); (try clear hk); (try clear hi)) | (go_at_call 8; (with_reducible refine (zab.calls k (⟨#[45, 32, 40, 110, 111, 116, 32, 118, 41]⟩ : ByteArray) (⟨#[45, 32, 40, 110, 111, 116, 32, 118, 41]⟩ : ByteArray) true _ ?side1 A27.out).mono ?_); (case side1 => exact Tabs.below hT (by repeat (first | (with_reducible first | exact HB.out | apply zac | apply zaa | apply zad) | exact HB.out))); rintro e w43 ⟨rfl, hb⟩; have n0_ := zae.mk (zaj (by repeat (first | (with_reducible first | exact HB.out | apply zac | apply zaa | apply zad) | exact HB.out)) hb); clear HB; have HB := n0_; clear n0_; (try clear hb); (try clear hb2); (try clear hk); (try clear hi)) | (go_at_call 8; (with_reducible refine (zab.calls k (⟨#[107, 32, 62, 32, 116]⟩ : ByteArray) (⟨#[107, 32, 62, 32, 116]⟩ : ByteArray) t218 _ ?side1 A29.out).mono ?_); (case side1 => exact Tabs.below hT (by repeat (first | (with_reducible first | exact HB.out | apply zac | apply zaa | apply zad) | exact HB.out))); rintro e w44 ⟨rfl, hb⟩; have n0_ := zae.mk (zaj (by repeat (first | (with_reducible first | exact HB.out | apply zac | apply zaa | apply zad) | exact HB.out)) hb); clear HB; have HB := n0_; clear n0_; (try clear hb); (try clear hb2); (try clear hk); (try clear hi)) | ((with_reducible refine zbs (N := 88) rfl ?_); (try (refine zbf (by rfl) ?_; dsimp only)); refine Kd.R_lit Kd.string _ 9 ?hg (N := 88) ?hd (xs := ([(⟨#[]⟩ : ByteArray), (⟨#[41]⟩ : ByteArray), (⟨#[40]⟩ : ByteArray), (⟨#[40, 118]⟩ : ByteArray), (⟨#[40, 41]⟩ : ByteArray), (⟨#[118, 32, 118]⟩ : ByteArray), (⟨#[45, 32]⟩ : ByteArray), (⟨#[110, 111, 116]⟩ : ByteArray), (⟨#[118, 32, 43, 32, 110, 111, 116, 32, 107]⟩ : ByteArray), (⟨#[45, 110, 111, 116, 32, 118]⟩ : ByteArray), (⟨#[118, 32, 42]⟩ : ByteArray), (⟨#[115, 101, 108, 101, 99, 116]⟩ : ByteArray), (⟨#[60, 32, 49]⟩ : ByteArray), (⟨#[118, 32, 60, 32, 110, 111, 116, 32, 107]⟩ : ByteArray), (⟨#[61, 32, 118]⟩ : ByteArray), (⟨#[107, 32, 97, 110, 100]⟩ : ByteArray), (⟨#[49, 32, 50]⟩ : ByteArray)] : List ByteArray)) (inner := [.string (⟨#[]⟩ : ByteArray), .string (⟨#[41]⟩ : ByteArray), .string (⟨#[40]⟩ : ByteArray), .string (⟨#[40, 118]⟩ : ByteArray), .string (⟨#[40, 41]⟩ : ByteArray), .string (⟨#[118, 32, 118]⟩ : ByteArray), .string (⟨#[45, 32]⟩ : ByteArray), .string (⟨#[110, 111, 116]⟩ : ByteArray), .string (⟨#[118, 32, 43, 32, 110, 111, 116, 32, 107]⟩ : ByteArray), .string (⟨#[45, 110, 111, 116, 32, 118]⟩ : ByteArray), .string (⟨#[118, 32, 42]⟩ : ByteArray), .string (⟨#[115, 101, 108, 101, 99, 116]⟩ : ByteArray), .string (⟨#[60, 32, 49]⟩ : ByteArray), .string (⟨#[118, 32, 60, 32, 110, 111, 116, 32, 107]⟩ : ByteArray), .string (⟨#[61, 32, 118]⟩ : ByteArray), .string (⟨#[107, 32, 97, 110, 100]⟩ : ByteArray), .string (⟨#[49, 32, 50]⟩ : ByteArray)]) (ok := fun _ => True) (okp := fun _ => True) ?hr ?hp (fun _ hk => hk) trivial (Below.refl _ _) (Nat.le_refl _) (by simp) ?_; (case hd => rfl); (case hg => rfl); (case hr => first | (go_simp; done) | (go_simp; rfl)); (case hp => exact (Reps.one (show Kd.M Kd.string _ _ _ (⟨#[]⟩ : ByteArray) [.string (⟨#[]⟩ : ByteArray)] from rfl) (Reps.one (show Kd.M Kd.string _ _ _ (⟨#[41]⟩ : ByteArray) [.string (⟨#[41]⟩ : ByteArray)] from rfl) (Reps.one (show Kd.M Kd.string _ _ _ (⟨#[40]⟩ : ByteArray) [.string (⟨#[40]⟩ : ByteArray)] from rfl) (Reps.one (show Kd.M Kd.string _ _ _ (⟨#[40, 118]⟩ : ByteArray) [.string (⟨#[40, 118]⟩ : ByteArray)] from rfl) (Reps.one (show Kd.M Kd.string _ _ _ (⟨#[40, 41]⟩ : ByteArray) [.string (⟨#[40, 41]⟩ : ByteArray)] from rfl) (Reps.one (show Kd.M Kd.string _ _ _ (⟨#[118, 32, 118]⟩ : ByteArray) [.string (⟨#[118, 32, 118]⟩ : ByteArray)] from rfl) (Reps.one (show Kd.M Kd.string _ _ _ (⟨#[45, 32]⟩ : ByteArray) [.string (⟨#[45, 32]⟩ : ByteArray)] from rfl) (Reps.one (show Kd.M Kd.string _ _ _ (⟨#[110, 111, 116]⟩ : ByteArray) [.string (⟨#[110, 111, 116]⟩ : ByteArray)] from rfl) (Reps.one (show Kd.M Kd.string _ _ _ (⟨#[118, 32, 43, 32, 110, 111, 116, 32, 107]⟩ : ByteArray) [.string (⟨#[118, 32, 43, 32, 110, 111, 116, 32, 107]⟩ : ByteArray)] from rfl) (Reps.one (show Kd.M Kd.string _ _ _ (⟨#[45, 110, 111, 116, 32, 118]⟩ : ByteArray) [.string (⟨#[45, 110, 111, 116, 32, 118]⟩ : ByteArray)] from rfl) (Reps.one (show Kd.M Kd.string _ _ _ (⟨#[118, 32, 42]⟩ : ByteArray) [.string (⟨#[118, 32, 42]⟩ : ByteArray)] from rfl) (Reps.one (show Kd.M Kd.string _ _ _ (⟨#[115, 101, 108, 101, 99, 116]⟩ : ByteArray) [.string (⟨#[115, 101, 108, 101, 99, 116]⟩ : ByteArray)] from rfl) (Reps.one (show Kd.M Kd.string _ _ _ (⟨#[60, 32, 49]⟩ : ByteArray) [.string (⟨#[60, 32, 49]⟩ : ByteArray)] from rfl) (Reps.one (show Kd.M Kd.string _ _ _ (⟨#[118, 32, 60, 32, 110, 111, 116, 32, 107]⟩ : ByteArray) [.string (⟨#[118, 32, 60, 32, 110, 111, 116, 32, 107]⟩ : ByteArray)] from rfl) (Reps.one (show Kd.M Kd.string _ _ _ (⟨#[61, 32, 118]⟩ : ByteArray) [.string (⟨#[61, 32, 118]⟩ : ByteArray)] from rfl) (Reps.one (show Kd.M Kd.string _ _ _ (⟨#[107, 32, 97, 110, 100]⟩ : ByteArray) [.string (⟨#[107, 32, 97, 110, 100]⟩ : ByteArray)] from rfl) (Reps.one (show Kd.M Kd.string _ _ _ (⟨#[49, 32, 50]⟩ : ByteArray) [.string (⟨#[49, 32, 50]⟩ : ByteArray)] from rfl) (Reps.none _ _))))))))))))))))))); intro v220 w45 ho46 hb hg_ hnew_; clear hg_ hnew_; (first | rw [← Ny219.out] at ho46 | (simp only [Int.reduceToNat] at ho46; rw [← Ny219.out] at ho46)); have n0_ := zae.mk (Kd.zbd ho46 (zaw (by repeat (first | (with_reducible first | exact HB.out | apply zac | apply zaa | apply zad) | exact HB.out)))); have n1_ := zae.mk (zaj (by repeat (first | (with_reducible first | exact HB.out | apply zac | apply zaa | apply zad) | exact HB.out)) hb); clear HB; have HO221 := n0_; have HB := n1_; clear n0_ n1_; clear hb ho46) | ((with_reducible refine zbs (N := 89) rfl ?_); (try (refine zbf (by rfl) ?_; dsimp only)); refine Kd.R_lit (Kd.int .i64) _ 3 ?hg (N := 89) ?hd (xs := ([0, 0, 1, 2, 1, (-1), 1, 1, 2, 1, 2, 0, 0, 2, 0, 2, (-1)] : List Int)) (inner := [.int .i64 0, .int .i64 0, .int .i64 1, .int .i64 2, .int .i64 1, .int .i64 (-1), .int .i64 1, .int .i64 1, .int .i64 2, .int .i64 1, .int .i64 2, .int .i64 0, .int .i64 0, .int .i64 2, .int .i64 0, .int .i64 2, .int .i64 (-1)]) (ok := fun _ => True) (okp := fun _ => True) ?hr ?hp (fun _ hk => hk) trivial (Below.refl _ _) (Nat.le_refl _) (by simp) ?_; (case hd => rfl); (case hg => rfl); (case hr => first | (go_simp; done) | (go_simp; rfl)); (case hp => exact (Reps.one (show Kd.M (Kd.int .i64) _ _ _ 0 [.int .i64 0] from rfl) (Reps.one (show Kd.M (Kd.int .i64) _ _ _ 0 [.int .i64 0] from rfl) (Reps.one (show Kd.M (Kd.int .i64) _ _ _ 1 [.int .i64 1] from rfl) (Reps.one (show Kd.M (Kd.int .i64) _ _ _ 2 [.int .i64 2] from rfl) (Reps.one (show Kd.M (Kd.int .i64) _ _ _ 1 [.int .i64 1] from rfl) (Reps.one (show Kd.M (Kd.int .i64) _ _ _ (-1) [.int .i64 (-1)] from rfl) (Reps.one (show Kd.M (Kd.int .i64) _ _ _ 1 [.int .i64 1] from rfl) (Reps.one (show Kd.M (Kd.int .i64) _ _ _ 1 [.int .i64 1] from rfl) (Reps.one (show Kd.M (Kd.int .i64) _ _ _ 2 [.int .i64 2] from rfl) (Reps.one (show Kd.M (Kd.int .i64) _ _ _ 1 [.int .i64 1] from rfl) (Reps.one (show Kd.M (Kd.int .i64) _ _ _ 2 [.int .i64 2] from rfl) (Reps.one (show Kd.M (Kd.int .i64) _ _ _ 0 [.int .i64 0] from rfl) (Reps.one (show Kd.M (Kd.int .i64) _ _ _ 0 [.int .i64 0] from rfl) (Reps.one (show Kd.M (Kd.int .i64) _ _ _ 2 [.int .i64 2] from rfl) (Reps.one (show Kd.M (Kd.int .i64) _ _ _ 0 [.int .i64 0] from rfl) (Reps.one (show Kd.M (Kd.int .i64) _ _ _ 2 [.int .i64 2] from rfl) (Reps.one (show Kd.M (Kd.int .i64) _ _ _ (-1) [.int .i64 (-1)] from rfl) (Reps.none _ _))))))))))))))))))); intro v223 w47 ho48 hb hg_ hnew_; clear hg_ hnew_; (first | rw [← Ny222.out] at ho48 | (simp only [Int.reduceToNat] at ho48; rw [← Ny222.out] at ho48)); have n0_ := zae.mk (Kd.zay (by (with_reducible repeat (first | apply Kd.zah | apply Kd.zai | apply Kd.zak)); exact HO221.out) hb); have n1_ := zae.mk (Kd.zbd ho48 (zaw (by repeat (first | (with_reducible first | exact HB.out | apply zac | apply zaa | apply zad) | exact HB.out)))); have n2_ := zae.mk (zaj (by repeat (first | (with_reducible first | exact HB.out | apply zac | apply zaa | apply zad) | exact HB.out)) hb); clear HO221; clear HB; have HO221 := n0_; have HO224 := n1_; have HB := n2_; clear n0_ n1_ n2_; clear hb ho48))
               go_loopg [4] k (fun kq v4 w' => ∃ (x4_1 : Int), v4 = .int .i64 x4_1 ∧ zae (zaf.l0 kq t218 y219 y222 x4_1 = some r) ∧ zae (kq ≤ k) ∧ zae (Kd.R Kd.string 9 w' w.heap.size (fun _ => True) v220 y219) ∧ zae (Kd.R (Kd.int .i64) 3 w' w.heap.size (fun _ => True) v223 y222) ∧ zae (Below w.heap.size w w'))
               case atStart => exact ⟨(0), (by first | rfl | (simp; done) | (simp [*]; done)), H', ⟨Nat.le_refl _⟩, ⟨by (with_reducible repeat (first | apply Kd.zah | apply Kd.zai | apply Kd.zak)); exact HO221.out⟩, ⟨by (with_reducible repeat (first | apply Kd.zah | apply Kd.zai | apply Kd.zak)); exact HO224.out⟩, ⟨by repeat (first | (with_reducible first | exact HB.out | apply zac | apply zaa | apply zad) | exact HB.out)⟩⟩
               case round =>
                clear H'
                try clear c1
                try clear c2
                try clear p2
                try clear c3
                try clear c4
                try clear c6
                try clear c8
                try clear c10
                try clear c12
                try clear c14
                try clear c16
                try clear c18
                try clear c20
                try clear c22
                try clear c24
                try clear c26
                try clear c28
                obtain ⟨x4_1, rfl, HA, HK1, HO_2, HO_3, HB⟩ := hrel
                cases gk with
                | zero => exact absurd HA.out (by simp [zaf.l0])
                | succ k1 =>
                 have H := HA.out
                 clear HA
                 simp only [zaf.l0] at H
                 by_cases c49 : x4_1 < (y219.length : Int)
                 ·rw [if_pos c49] at H
                  have c49b0 : decide (x4_1 < (y219.length : Int)) = true := decide_eq_true c49
                  clear c49
                  by_cases c50 : 0 ≤ x4_1
                  ·rw [if_pos c50] at H
                   have c50b0 : decide (0 ≤ x4_1) = true := decide_eq_true c50
                   clear c50
                   replace H := Option.bind_eq_some_iff.mp H
                   obtain ⟨⟨t226, t227, t228⟩, A510, H⟩ := H
                   replace H : ((zax.f k1 t226 0).bind fun bt231 => (if t228 = 0 then (if x4_1 < (y222.length : Int) then (if (rd y222 x4_1) ≥ 0 then (if bt231.2.2 = 12 then (if bt231.2.1 = (rd y222 x4_1) then (if (rd y222 x4_1) < 0 then (if bt231.2.2 = 0 then (zaf.j1 k1 t218 y219 y222 x4_1 (bt231.2.1 != 1)) else (none)) else (zaf.j1 k1 t218 y219 y222 x4_1 false)) else (none)) else (none)) else (if (rd y222 x4_1) < 0 then (if bt231.2.2 = 0 then (zaf.j1 k1 t218 y219 y222 x4_1 (bt231.2.1 != 1)) else (none)) else (zaf.j1 k1 t218 y219 y222 x4_1 false))) else (none)) else (none))) = some r := H
                   have A51 := zae.mk A510
                   clear A510
                   replace H := Option.bind_eq_some_iff.mp H
                   obtain ⟨⟨t231, t232, t233⟩, A520, H⟩ := H
                   replace H : (if t228 = 0 then (if x4_1 < (y222.length : Int) then (if (rd y222 x4_1) ≥ 0 then (if t233 = 12 then (if t232 = (rd y222 x4_1) then (if (rd y222 x4_1) < 0 then (if t233 = 0 then (zaf.j1 k1 t218 y219 y222 x4_1 (t232 != 1)) else (none)) else (zaf.j1 k1 t218 y219 y222 x4_1 false)) else (none)) else (none)) else (if (rd y222 x4_1) < 0 then (if t233 = 0 then (zaf.j1 k1 t218 y219 y222 x4_1 (t232 != 1)) else (none)) else (zaf.j1 k1 t218 y219 y222 x4_1 false))) else (none)) else (none)) = some r := H
                   have A52 := zae.mk A520
                   clear A520
                   have HC53 := zae.mk H
                   clear H
                   obtain ⟨Ao54, co54, eo54⟩ := Kd.zbc HO_2.out
                   subst eo54
                   have p225 : 0 ≤ (x4_1 : Int) := of_decide_eq_true (by first | (with_reducible assumption) | assumption)
                   have q225 : x4_1 < (y219.length : Int) := of_decide_eq_true (by first | (with_reducible assumption) | assumption)
                   obtain ⟨ad225, e225, hx225_0⟩ := Kd.at_string (Kd.za2 HO_2.out).2.2 x4_1 p225 q225
                   cases e225
                   replace p225 := eq_true p225
                   replace q225 := eq_true q225
                   go_upto_region 9 with (first | ((with_reducible refine zar (f := 9) rfl ?_); refine za6 (some 101) rfl rfl Tryz.func9 (by kernel_rfl) rfl #[.string (rdOf ByteArray.empty y219 x4_1)] rfl (by (try simp only [List.map_toArray, List.map_cons, List.map_nil]); first | done | rfl | (simp only [List.length_drop, List.length_take]; rfl)) ?_; (with_reducible refine (zbj.calls k1 (rdOf ByteArray.empty y219 x4_1) t226 t227 t228 _ ?side1 A51.out).mono ?_); (case side1 => exact Tabs.below hT (by repeat (first | (with_reducible first | exact HB.out | apply zac | apply zaa | apply zad) | exact HB.out))); rintro e w55 ⟨v229, rfl, ho0, hb⟩; refine ⟨_, rfl, ?_⟩; have n0_ := zae.mk (Kd.zay (by (with_reducible repeat (first | apply Kd.zah | apply Kd.zai | apply Kd.zak)); exact HO_2.out) hb); have n1_ := zae.mk (Kd.zay (by (with_reducible repeat (first | apply Kd.zah | apply Kd.zai | apply Kd.zak)); exact HO_3.out) hb); have n2_ := zae.mk (Kd.zbd ho0 (zaw (by repeat (first | (with_reducible first | exact HB.out | apply zac | apply zaa | apply zad) | exact HB.out)))); have n3_ := zae.mk (zaj (by repeat (first | (with_reducible first | exact HB.out | apply zac | apply zaa | apply zad) | exact HB.out)) hb); clear HO_2; clear HO_3; clear HB; have HO_2 := n0_; have HO_3 := n1_; have HO230 := n2_; have HB := n3_; clear n0_ n1_ n2_ n3_; (try clear hb); (try clear hb2); (try clear hk); (try clear hi); (try clear ho0); obtain ⟨Ao56, co56, eo56⟩ := Kd.zbc HO230.out; subst eo56) | ((with_reducible refine zar (f := 10) rfl ?_); refine za6 (some 107) rfl rfl Tryz.func10 (by kernel_rfl) rfl #[.slice Ao56 t226.length co56, .int .i64 0] rfl (by (try simp only [List.map_toArray, List.map_cons, List.map_nil]); first | done | rfl | (simp only [List.length_drop, List.length_take]; rfl)) ?_; (with_reducible refine (zax.calls k1 _ _ t226 0 t231 t232 t233 _ ?side1 ?side2 ?side3 A52.out).mono ?_); (case side1 => repeat (first | exact (Kd.za2 HO230.out).2.2 | (with_reducible refine Kd.zbt ?_ _) | (with_reducible refine Kd.zbu ?_ _) | (with_reducible refine Kd.zb2 ?_))); (case side2 => exact (Kd.za2 HO230.out).2.1); (case side3 => exact Tabs.below hT (by repeat (first | (with_reducible first | exact HB.out | apply zac | apply zaa | apply zad) | exact HB.out))); rintro e w57 ⟨v234, rfl, ho0, hb⟩; refine ⟨_, rfl, ?_⟩; have n0_ := zae.mk (Kd.zay (by (with_reducible repeat (first | apply Kd.zah | apply Kd.zai | apply Kd.zak)); exact HO_2.out) hb); have n1_ := zae.mk (Kd.zay (by (with_reducible repeat (first | apply Kd.zah | apply Kd.zai | apply Kd.zak)); exact HO_3.out) hb); have n2_ := zae.mk (Kd.zay (by (with_reducible repeat (first | apply Kd.zah | apply Kd.zai | apply Kd.zak)); exact HO230.out) hb); have n3_ := zae.mk (Kd.zbd ho0 (zaw (by repeat (first | (with_reducible first | exact HB.out | apply zac | apply zaa | apply zad) | exact HB.out)))); have n4_ := zae.mk (zaj (by repeat (first | (with_reducible first | exact HB.out | apply zac | apply zaa | apply zad) | exact HB.out)) hb); clear HO_2; clear HO_3; clear HO230; clear HB; have HO_2 := n0_; have HO_3 := n1_; have HO230 := n2_; have HO235 := n3_; have HB := n4_; clear n0_ n1_ n2_ n3_ n4_; (try clear hb); (try clear hb2); (try clear hk); (try clear hi); (try clear ho0)))
                   (try simp only [Act.put, List.setIfInBounds_toArray, List.set_cons_zero, List.set_cons_succ])
                   go_cut [146] (fun v146 wc => ∃ (kq : Nat) (x146_52 : Bool), v146 = .bool x146_52 ∧ zae (zaf.j1 kq t218 y219 y222 x4_1 x146_52 = some r) ∧ zae (kq ≤ k1) ∧ zae (Kd.R Kd.string 9 wc w.heap.size (fun _ => True) (.slice (some ad225) y219.length co54) y219) ∧ zae (Kd.R (Kd.int .i64) 3 wc w.heap.size (fun _ => True) v223 y222) ∧ zae (Below w.heap.size w wc))
                   case first =>
                    have H := HC53.out
                    clear HC53
                    by_cases c58 : t228 = 0
                    ·rw [if_pos c58] at H
                     have c58b0 : (t228 == 0) = true := beq_iff_eq.mpr c58
                     have c58b1 : (t228 != 0) = false := bne_eq_false_iff_eq.mpr c58
                     clear c58
                     (first | rw [c58b0] | (simp only [i64_w, i32_w]; rw [c58b0]) | skip)
                     by_cases c59 : x4_1 < (y222.length : Int)
                     ·rw [if_pos c59] at H
                      have c59b0 : decide (x4_1 < (y222.length : Int)) = true := decide_eq_true c59
                      clear c59
                      by_cases c60 : (rd y222 x4_1) ≥ 0
                      ·rw [if_pos c60] at H
                       have c60b0 : decide (0 ≤ (rd y222 x4_1)) = true := decide_eq_true c60
                       clear c60
                       by_cases c61 : t233 = 12
                       ·rw [if_pos c61] at H
                        have c61b0 : (t233 == 12) = true := beq_iff_eq.mpr c61
                        have c61b1 : (t233 != 12) = false := bne_eq_false_iff_eq.mpr c61
                        clear c61
                        by_cases c62 : t232 = (rd y222 x4_1)
                        ·rw [if_pos c62] at H
                         have c62b0 : (t232 == (rd y222 x4_1)) = true := beq_iff_eq.mpr c62
                         have c62b1 : (t232 != (rd y222 x4_1)) = false := bne_eq_false_iff_eq.mpr c62
                         clear c62
                         by_cases c63 : (rd y222 x4_1) < 0
                         ·rw [if_pos c63] at H
                          have c63b0 : decide ((rd y222 x4_1) < 0) = true := decide_eq_true c63
                          clear c63
                          by_cases c64 : t233 = 0
                          ·rw [if_pos c64] at H
                           have c64b0 : (t233 == 0) = true := beq_iff_eq.mpr c64
                           have c64b1 : (t233 != 0) = false := bne_eq_false_iff_eq.mpr c64
                           clear c64
                           have H' := zae.mk H
                           clear H
                           obtain ⟨Ao65, co65, eo65⟩ := Kd.zbc HO_3.out
                           subst eo65
                           have p236 : 0 ≤ (x4_1 : Int) := of_decide_eq_true (by first | (with_reducible assumption) | assumption)
                           have q236 : x4_1 < (y222.length : Int) := of_decide_eq_true (by first | (with_reducible assumption) | assumption)
                           obtain ⟨ad236, e236, hx236_0⟩ := Kd.at_int (Kd.za2 HO_3.out).2.2 x4_1 p236 q236
                           cases e236
                           replace p236 := eq_true p236
                           replace q236 := eq_true q236
                           have p237 : 0 ≤ (x4_1 : Int) := of_decide_eq_true (by first | (with_reducible assumption) | assumption)
                           have q237 : x4_1 < (y222.length : Int) := of_decide_eq_true (by first | (with_reducible assumption) | assumption)
                           obtain ⟨ad237, e237, hx237_0⟩ := Kd.at_int (Kd.za2 HO_3.out).2.2 x4_1 p237 q237
                           obtain rfl : ad236 = ad237 := (by injection e237)
                           replace p237 := eq_true p237
                           replace q237 := eq_true q237
                           have p238 : 0 ≤ (x4_1 : Int) := of_decide_eq_true (by first | (with_reducible assumption) | assumption)
                           have q238 : x4_1 < (y222.length : Int) := of_decide_eq_true (by first | (with_reducible assumption) | assumption)
                           obtain ⟨ad238, e238, hx238_0⟩ := Kd.at_int (Kd.za2 HO_3.out).2.2 x4_1 p238 q238
                           obtain rfl : ad236 = ad238 := (by injection e238)
                           replace p238 := eq_true p238
                           replace q238 := eq_true q238
                           go_wp2
                           go_meet
                           case rel => exact ⟨_, ((t232 != 1)), (by first | rfl | (simp; done) | (simp [*]; done)), H', ⟨by have := HK1.out; first | omega | exact Nat.le_refl _⟩, ⟨by (with_reducible repeat (first | apply Kd.zah | apply Kd.zai | apply Kd.zak)); exact HO_2.out⟩, ⟨by (with_reducible repeat (first | apply Kd.zah | apply Kd.zai | apply Kd.zak)); exact HO_3.out⟩, ⟨by repeat (first | (with_reducible first | exact HB.out | apply zac | apply zaa | apply zad) | exact HB.out)⟩⟩
                          ·rw [if_neg c64] at H
                           exact absurd H (by simp)
                         ·rw [if_neg c63] at H
                          have c63b0 : decide ((rd y222 x4_1) < 0) = false := decide_eq_false c63
                          clear c63
                          have H' := zae.mk H
                          clear H
                          obtain ⟨Ao66, co66, eo66⟩ := Kd.zbc HO_3.out
                          subst eo66
                          have p236 : 0 ≤ (x4_1 : Int) := of_decide_eq_true (by first | (with_reducible assumption) | assumption)
                          have q236 : x4_1 < (y222.length : Int) := of_decide_eq_true (by first | (with_reducible assumption) | assumption)
                          obtain ⟨ad236, e236, hx236_0⟩ := Kd.at_int (Kd.za2 HO_3.out).2.2 x4_1 p236 q236
                          cases e236
                          replace p236 := eq_true p236
                          replace q236 := eq_true q236
                          have p237 : 0 ≤ (x4_1 : Int) := of_decide_eq_true (by first | (with_reducible assumption) | assumption)
                          have q237 : x4_1 < (y222.length : Int) := of_decide_eq_true (by first | (with_reducible assumption) | assumption)
                          obtain ⟨ad237, e237, hx237_0⟩ := Kd.at_int (Kd.za2 HO_3.out).2.2 x4_1 p237 q237
                          obtain rfl : ad236 = ad237 := (by injection e237)
                          replace p237 := eq_true p237
                          replace q237 := eq_true q237
                          have p238 : 0 ≤ (x4_1 : Int) := of_decide_eq_true (by first | (with_reducible assumption) | assumption)
                          have q238 : x4_1 < (y222.length : Int) := of_decide_eq_true (by first | (with_reducible assumption) | assumption)
                          obtain ⟨ad238, e238, hx238_0⟩ := Kd.at_int (Kd.za2 HO_3.out).2.2 x4_1 p238 q238
                          obtain rfl : ad236 = ad238 := (by injection e238)
                          replace p238 := eq_true p238
                          replace q238 := eq_true q238
                          go_wp2
                          go_meet
                          case rel => exact ⟨_, (false), (by first | rfl | (simp; done) | (simp [*]; done)), H', ⟨by have := HK1.out; first | omega | exact Nat.le_refl _⟩, ⟨by (with_reducible repeat (first | apply Kd.zah | apply Kd.zai | apply Kd.zak)); exact HO_2.out⟩, ⟨by (with_reducible repeat (first | apply Kd.zah | apply Kd.zai | apply Kd.zak)); exact HO_3.out⟩, ⟨by repeat (first | (with_reducible first | exact HB.out | apply zac | apply zaa | apply zad) | exact HB.out)⟩⟩
                        ·rw [if_neg c62] at H
                         exact absurd H (by simp)
                       ·rw [if_neg c61] at H
                        exact absurd H (by simp)
                      ·rw [if_neg c60] at H
                       have c60b0 : decide (0 ≤ (rd y222 x4_1)) = false := decide_eq_false c60
                       clear c60
                       by_cases c67 : (rd y222 x4_1) < 0
                       ·rw [if_pos c67] at H
                        have c67b0 : decide ((rd y222 x4_1) < 0) = true := decide_eq_true c67
                        clear c67
                        by_cases c68 : t233 = 0
                        ·rw [if_pos c68] at H
                         have c68b0 : (t233 == 0) = true := beq_iff_eq.mpr c68
                         have c68b1 : (t233 != 0) = false := bne_eq_false_iff_eq.mpr c68
                         clear c68
                         have H' := zae.mk H
                         clear H
                         obtain ⟨Ao69, co69, eo69⟩ := Kd.zbc HO_3.out
                         subst eo69
                         have p236 : 0 ≤ (x4_1 : Int) := of_decide_eq_true (by first | (with_reducible assumption) | assumption)
                         have q236 : x4_1 < (y222.length : Int) := of_decide_eq_true (by first | (with_reducible assumption) | assumption)
                         obtain ⟨ad236, e236, hx236_0⟩ := Kd.at_int (Kd.za2 HO_3.out).2.2 x4_1 p236 q236
                         cases e236
                         replace p236 := eq_true p236
                         replace q236 := eq_true q236
                         have p239 : 0 ≤ (x4_1 : Int) := of_decide_eq_true (by first | (with_reducible assumption) | assumption)
                         have q239 : x4_1 < (y222.length : Int) := of_decide_eq_true (by first | (with_reducible assumption) | assumption)
                         obtain ⟨ad239, e239, hx239_0⟩ := Kd.at_int (Kd.za2 HO_3.out).2.2 x4_1 p239 q239
                         obtain rfl : ad236 = ad239 := (by injection e239)
                         replace p239 := eq_true p239
                         replace q239 := eq_true q239
                         go_wp2
                         go_meet
                         case rel => exact ⟨_, ((t232 != 1)), (by first | rfl | (simp; done) | (simp [*]; done)), H', ⟨by have := HK1.out; first | omega | exact Nat.le_refl _⟩, ⟨by (with_reducible repeat (first | apply Kd.zah | apply Kd.zai | apply Kd.zak)); exact HO_2.out⟩, ⟨by (with_reducible repeat (first | apply Kd.zah | apply Kd.zai | apply Kd.zak)); exact HO_3.out⟩, ⟨by repeat (first | (with_reducible first | exact HB.out | apply zac | apply zaa | apply zad) | exact HB.out)⟩⟩
                        ·rw [if_neg c68] at H
                         exact absurd H (by simp)
                       ·rw [if_neg c67] at H
                        have c67b0 : decide ((rd y222 x4_1) < 0) = false := decide_eq_false c67
                        clear c67
                        have H' := zae.mk H
                        clear H
                        obtain ⟨Ao70, co70, eo70⟩ := Kd.zbc HO_3.out
                        subst eo70
                        have p236 : 0 ≤ (x4_1 : Int) := of_decide_eq_true (by first | (with_reducible assumption) | assumption)
                        have q236 : x4_1 < (y222.length : Int) := of_decide_eq_true (by first | (with_reducible assumption) | assumption)
                        obtain ⟨ad236, e236, hx236_0⟩ := Kd.at_int (Kd.za2 HO_3.out).2.2 x4_1 p236 q236
                        cases e236
                        replace p236 := eq_true p236
                        replace q236 := eq_true q236
                        have p239 : 0 ≤ (x4_1 : Int) := of_decide_eq_true (by first | (with_reducible assumption) | assumption)
                        have q239 : x4_1 < (y222.length : Int) := of_decide_eq_true (by first | (with_reducible assumption) | assumption)
                        obtain ⟨ad239, e239, hx239_0⟩ := Kd.at_int (Kd.za2 HO_3.out).2.2 x4_1 p239 q239
                        obtain rfl : ad236 = ad239 := (by injection e239)
                        replace p239 := eq_true p239
                        replace q239 := eq_true q239
                        go_wp2
                        go_meet
                        case rel => exact ⟨_, (false), (by first | rfl | (simp; done) | (simp [*]; done)), H', ⟨by have := HK1.out; first | omega | exact Nat.le_refl _⟩, ⟨by (with_reducible repeat (first | apply Kd.zah | apply Kd.zai | apply Kd.zak)); exact HO_2.out⟩, ⟨by (with_reducible repeat (first | apply Kd.zah | apply Kd.zai | apply Kd.zak)); exact HO_3.out⟩, ⟨by repeat (first | (with_reducible first | exact HB.out | apply zac | apply zaa | apply zad) | exact HB.out)⟩⟩
                     ·rw [if_neg c59] at H
                      exact absurd H (by simp)
                    ·rw [if_neg c58] at H
                     exact absurd H (by simp)
                   case rest =>
                    clear HC53
                    try clear c1
                    try clear c2
                    try clear p2
                    try clear q2
                    try clear hx2
                    try clear c3
                    try clear c4
                    try clear c5
                    try clear c6
                    try clear c8
                    try clear c9
                    try clear c10
                    try clear c12
                    try clear c14
                    try clear c16
                    try clear c18
                    try clear c20
                    try clear c22
                    try clear p22
                    try clear q22
                    try clear hx22
                    try clear p23
                    try clear q23
                    try clear hx23
                    try clear c24
                    try clear c26
                    try clear c28
                    try clear c49
                    try clear c49b0
                    try clear c50
                    try clear c50b0
                    try clear c58
                    try clear c58b0
                    try clear c58b1
                    try clear c59
                    try clear c59b0
                    try clear c60
                    try clear c60b0
                    try clear c61
                    try clear c61b0
                    try clear c61b1
                    try clear c62
                    try clear c62b0
                    try clear c62b1
                    try clear c63
                    try clear c63b0
                    try clear c64
                    try clear c64b0
                    try clear c64b1
                    try clear c67
                    try clear c67b0
                    try clear c68
                    try clear c68b0
                    try clear c68b1
                    try clear hx225_0
                    try clear hx236_0
                    try clear hx237_0
                    try clear hx238_0
                    try clear hx239_0
                    try clear p2
                    try clear p225
                    try clear p236
                    try clear p237
                    try clear p238
                    try clear p239
                    try clear q225
                    try clear q236
                    try clear q237
                    try clear q238
                    try clear q239
                    obtain ⟨kq, x146_52, rfl, HA, HJ52, HO_2, HO_3, HB⟩ := hcut
                    cases kq with
                    | zero => exact absurd HA.out (by simp [zaf.j1])
                    | succ kj52 =>
                     have H := HA.out
                     clear HA
                     simp only [zaf.j1] at H
                     by_cases c71 : x146_52 = true
                     ·subst c71
                      have H1 : (some false) = some r := by rw [if_pos rfl] at H; exact H
                      clear H
                      have H := H1
                      clear H1
                      obtain rfl := Option.some.inj H
                      go_wp2
                      go_ret
                      exact ⟨by first | rfl | (simp [zat, zau] <;> rfl) | (simp [*, zat, zau] <;> rfl), by repeat (first | (with_reducible first | exact HB.out | apply zac | apply zaa | apply zad) | exact HB.out)⟩
                     ·replace c71 := Bool.eq_false_iff.mpr c71
                      subst c71
                      have H1 : (zaf.l0 kj52 t218 y219 y222 (wrap64 (x4_1 + 1))) = some r := by rw [if_neg (show ¬ (false = true) by decide)] at H; exact H
                      clear H
                      have H := H1
                      clear H1
                      have H' := zae.mk H
                      clear H
                      go_wp2
                      go_roundg kj52
                      case measure => have := HK1.out; have := HJ52.out; omega
                      case rel => exact ⟨(wrap64 (x4_1 + 1)), (by first | rfl | (simp; done) | (simp [*]; done)), H', ⟨by have := HK1.out; have := HJ52.out; omega⟩, ⟨by (with_reducible repeat (first | apply Kd.zah | apply Kd.zai | apply Kd.zak)); exact HO_2.out⟩, ⟨by (with_reducible repeat (first | apply Kd.zah | apply Kd.zai | apply Kd.zak)); exact HO_3.out⟩, ⟨by repeat (first | (with_reducible first | exact HB.out | apply zac | apply zaa | apply zad) | exact HB.out)⟩⟩
                  ·rw [if_neg c50] at H
                   exact absurd H (by simp)
                 ·rw [if_neg c49] at H
                  have c49b0 : decide (x4_1 < (y219.length : Int)) = false := decide_eq_false c49
                  clear c49
                  obtain ⟨y241, hy241⟩ : ∃ y_ : List (S33), y_ = (([(⟨2, (⟨#[118]⟩ : ByteArray), 0⟩ : S33)] : List (S33))) := ⟨_, rfl⟩
                  replace H : (zaf.l1 k1 t218 y241 0 2 (⟨#[118]⟩ : ByteArray) 0) = some r := by first | (rw [hy241]; with_reducible exact H) | (have H2_ := (Option.bind_some _ _).symm.trans H; rw [hy241]; with_reducible exact H2_) | (have H2_ := (Option.bind_some _ _).symm.trans H; with_reducible exact H2_) | with_reducible exact H | (rw [hy241]; exact H) | exact H
                  have Ny241 := zae.mk hy241
                  clear hy241
                  have H' := zae.mk H
                  clear H
                  obtain ⟨Ao72, co72, eo72⟩ := Kd.zbc HO_2.out
                  subst eo72
                  go_wp2_with (first | ((with_reducible refine zbs (N := 11) rfl ?_); (try (refine zbf (by rfl) ?_; dsimp only)); refine zb5 ?hg (N := 11) ?hd (cs := #[.int .u8 0, .string (⟨#[]⟩ : ByteArray), .int .i64 0]) (t := 33) ?hr ?_; (case hd => rfl); (case hg => rfl); (case hr => first | (go_simp; done) | (go_simp; rfl)); intro gb240 hg w73 hbox hb; have n0_ := zae.mk (Kd.zay (by (with_reducible repeat (first | apply Kd.zah | apply Kd.zai | apply Kd.zak)); exact HO_2.out) hb); have n1_ := zae.mk (Kd.zay (by (with_reducible repeat (first | apply Kd.zah | apply Kd.zai | apply Kd.zak)); exact HO_3.out) hb); have n2_ := zae.mk (zaj (by repeat (first | (with_reducible first | exact HB.out | apply zac | apply zaa | apply zad) | exact HB.out)) hb); have n3_ := zae.mk (hbox); have n4_ := zae.mk ((by rw [hg]; exact (zaw (by repeat (first | (with_reducible first | exact HB.out | apply zac | apply zaa | apply zad) | exact HB.out))) : w.heap.size ≤ gb240)); have n5_ := zae.mk ((by rw [hg]; exact (zaw (by repeat (first | (with_reducible first | exact HB.out | apply zac | apply zaa | apply zad) | exact HB.out))) : w.heap.size ≤ gb240)); clear HO_2; clear HO_3; clear HB; have HO_2 := n0_; have HO_3 := n1_; have HB := n2_; have BK240 := n3_; have GW240 := n4_; have GE240 := n5_; clear n0_ n1_ n2_ n3_ n4_ n5_; clear hb hbox hg; have hcz74_0 : w73.cell? ⟨gb240, 0, none⟩ = some (.int .u8 0) := (zas BK240.out 0).trans rfl; have hcz74_1 : w73.cell? ⟨gb240, 1, none⟩ = some (.string (⟨#[]⟩ : ByteArray)) := (zas BK240.out 1).trans rfl; have hcz74_2 : w73.cell? ⟨gb240, 2, none⟩ = some (.int .i64 0) := (zas BK240.out 2).trans rfl; have hfz74_0 := zao BK240.out 0; have hfz74_1 := zao BK240.out 1; have hfz74_2 := zao BK240.out 2) | ((with_reducible refine zbs (N := 149) rfl ?_); (try (refine zbf (by rfl) ?_; dsimp only)); refine Kd.R_lit k33 _ 33 ?hg (N := 149) ?hd (xs := ([(⟨2, (⟨#[118]⟩ : ByteArray), 0⟩ : S33)] : List (S33))) (inner := [.int .u8 2, .string (⟨#[118]⟩ : ByteArray), .int .i64 0]) (ok := fun _ => True) (okp := fun _ => True) ?hr ?hp (fun _ hk => hk) trivial (Below.refl _ _) (Nat.le_refl _) (by simp) ?_; (case hd => rfl); (case hg => rfl); (case hr => first | (go_simp; done) | (go_simp; rfl)); (case hp => exact (Reps.c3 (show Kd.M k33 _ _ _ (⟨2, (⟨#[118]⟩ : ByteArray), 0⟩ : S33) [.int .u8 2, .string (⟨#[118]⟩ : ByteArray), .int .i64 0] from (zcm _ _ _ (⟨2, (⟨#[118]⟩ : ByteArray), 0⟩ : S33) )) (Reps.none _ _))); intro v242 w75 ho76 hb hg_ hnew_; clear hg_ hnew_; (first | rw [← Ny241.out] at ho76 | (simp only [Int.reduceToNat] at ho76; rw [← Ny241.out] at ho76)); have n0_ := zae.mk (Kd.zay (by (with_reducible repeat (first | apply Kd.zah | apply Kd.zai | apply Kd.zak)); exact (Kd.zbi (Kd.R_far (p := ⟨gb240, 2, none⟩) (Kd.R_far (p := ⟨gb240, 1, none⟩) (Kd.R_far (p := ⟨gb240, 0, none⟩) (Kd.R_types HO_2.out BK240.out (by decide)) (fun _ hk => hk.2) (.int .u8 2)) (fun _ hk => hk.2) (.string (⟨#[118]⟩ : ByteArray))) (fun _ hk => hk.2) (.int .i64 0)) (fun _ h_ => h_.1))) hb); have n1_ := zae.mk (Kd.zay (by (with_reducible repeat (first | apply Kd.zah | apply Kd.zai | apply Kd.zak)); exact (Kd.zbi (Kd.R_far (p := ⟨gb240, 2, none⟩) (Kd.R_far (p := ⟨gb240, 1, none⟩) (Kd.R_far (p := ⟨gb240, 0, none⟩) (Kd.R_types HO_3.out BK240.out (by decide)) (fun _ hk => hk.2) (.int .u8 2)) (fun _ hk => hk.2) (.string (⟨#[118]⟩ : ByteArray))) (fun _ hk => hk.2) (.int .i64 0)) (fun _ h_ => h_.1))) hb); have n2_ := zae.mk (Kd.zbd (Kd.R_newB ho76 (g := gb240) (o := .cells #[.int .u8 2, .string (⟨#[118]⟩ : ByteArray), .int .i64 0] 33 (0, 0)) (by (with_reducible repeat (first | refine zaq ?_ _ | refine zav ?_ | refine zan ?_ _)); refine zbl (cs := #[.int .u8 2, .string (⟨#[118]⟩ : ByteArray), .int .i64 0]) ?_ 2 _ rfl; (with_reducible repeat (first | refine zaq ?_ _ | refine zav ?_ | refine zan ?_ _)); refine zbl (cs := #[.int .u8 2, .string (⟨#[]⟩ : ByteArray), .int .i64 0]) ?_ 1 _ rfl; (with_reducible repeat (first | refine zaq ?_ _ | refine zav ?_ | refine zan ?_ _)); refine zbl (cs := #[.int .u8 0, .string (⟨#[]⟩ : ByteArray), .int .i64 0]) ?_ 0 _ rfl; (with_reducible repeat (first | refine zaq ?_ _ | refine zav ?_ | refine zan ?_ _)); exact BK240.out)) (zaw (by repeat (first | (with_reducible first | exact HB.out | apply zac | apply zaa | apply zad | refine zam ?_ GE240.out) | exact HB.out)))); have n3_ := zae.mk (za7 (g := gb240) (o := .cells #[.int .u8 2, .string (⟨#[118]⟩ : ByteArray), .int .i64 0] 33 (0, 0)) (by (with_reducible repeat (first | refine zaq ?_ _ | refine zav ?_ | refine zan ?_ _)); refine zbl (cs := #[.int .u8 2, .string (⟨#[118]⟩ : ByteArray), .int .i64 0]) ?_ 2 _ rfl; (with_reducible repeat (first | refine zaq ?_ _ | refine zav ?_ | refine zan ?_ _)); refine zbl (cs := #[.int .u8 2, .string (⟨#[]⟩ : ByteArray), .int .i64 0]) ?_ 1 _ rfl; (with_reducible repeat (first | refine zaq ?_ _ | refine zav ?_ | refine zan ?_ _)); refine zbl (cs := #[.int .u8 0, .string (⟨#[]⟩ : ByteArray), .int .i64 0]) ?_ 0 _ rfl; (with_reducible repeat (first | refine zaq ?_ _ | refine zav ?_ | refine zan ?_ _)); exact BK240.out) hb); have n4_ := zae.mk (zaj (by repeat (first | (with_reducible first | exact HB.out | apply zac | apply zaa | apply zad | refine zam ?_ GE240.out) | exact HB.out)) hb); clear HO_2; clear HO_3; clear BK240; clear HB; have HO_2 := n0_; have HO_3 := n1_; have HO243 := n2_; have BK240 := n3_; have HB := n4_; clear n0_ n1_ n2_ n3_ n4_; clear hb ho76))
                  go_loopg [12, 13] k1 (fun kq v12 v13 w' => ∃ (x12_2 : List (S33)) (x13_2 : Int), v13 = .int .i64 x13_2 ∧ zae (zaf.l1 kq t218 x12_2 x13_2 2 (⟨#[118]⟩ : ByteArray) 0 = some r) ∧ zae (kq ≤ k1) ∧ zae (Kd.R k33 33 w' w.heap.size (fun k_ => k_ ≠ gb240) v12 x12_2) ∧ zae (w'.heap[gb240]? = some (.cells #[.int .u8 2, .string (⟨#[118]⟩ : ByteArray), .int .i64 0] 33 (0, 0))) ∧ zae (Below w.heap.size w w'))
                  case atStart => exact ⟨(y241), (0), (by first | rfl | (simp; done) | (simp [*]; done)), H', ⟨Nat.le_refl _⟩, ⟨by (with_reducible repeat (first | apply Kd.zah | apply Kd.zai | apply Kd.zak)); exact Kd.zbi HO243.out (fun _ hk => hk.2)⟩, ⟨by (with_reducible repeat (first | refine zaq ?_ _ | refine zav ?_ | refine zan ?_ _)); exact BK240.out⟩, ⟨by repeat (first | (with_reducible first | exact HB.out | apply zac | apply zaa | apply zad | refine zam ?_ GE240.out) | exact HB.out)⟩⟩
                  case round =>
                   clear H'
                   try clear c1
                   try clear c2
                   try clear p2
                   try clear q2
                   try clear hx2
                   try clear c3
                   try clear c4
                   try clear c5
                   try clear c6
                   try clear p6
                   try clear c7
                   try clear c8
                   try clear c9
                   try clear c10
                   try clear c12
                   try clear c14
                   try clear c16
                   try clear c18
                   try clear c20
                   try clear c22
                   try clear p22
                   try clear q22
                   try clear hx22
                   try clear p23
                   try clear q23
                   try clear hx23
                   try clear c24
                   try clear c26
                   try clear c28
                   try clear c49
                   try clear c49b0
                   try clear c50
                   try clear c50b0
                   try clear c58
                   try clear c58b0
                   try clear c58b1
                   try clear c59
                   try clear c59b0
                   try clear c60
                   try clear c60b0
                   try clear c61
                   try clear c61b0
                   try clear c61b1
                   try clear c62
                   try clear c62b0
                   try clear c62b1
                   try clear c63
                   try clear c63b0
                   try clear c64
                   try clear c64b0
                   try clear c64b1
                   try clear p64
                   try clear c67
                   try clear c67b0
                   try clear c68
                   try clear c68b0
                   try clear c68b1
                   try clear c71
                   try clear hcz74_0
                   try clear hcz74_1
                   try clear hcz74_2
                   try clear hfz74_0
                   try clear hfz74_1
                   try clear hfz74_2
                   try clear hx225_0
                   try clear hx236_0
                   try clear hx237_0
                   try clear hx238_0
                   try clear hx239_0
                   try clear p2
                   try clear p22
                   try clear p225
                   try clear p23
                   try clear p236
                   try clear p237
                   try clear p238
                   try clear p239
                   try clear q2
                   try clear q22
                   try clear q225
                   try clear q23
                   try clear q236
                   try clear q237
                   try clear q238
                   try clear q239
                   obtain ⟨x12_2, x13_2, rfl, HA, HK2, HO_12, BK240, HB⟩ := hrel
                   cases gk with
                   | zero => exact absurd HA.out (by simp [zaf.l1])
                   | succ k2 =>
                    have H := HA.out
                    clear HA
                    simp only [zaf.l1] at H
                    by_cases c77 : x13_2 < 20
                    ·rw [if_pos c77] at H
                     have c77b0 : decide (x13_2 < 20) = true := decide_eq_true c77
                     clear c77
                     obtain ⟨y244, hy244⟩ : ∃ y_ : List (S33), y_ = (([(⟨3, (⟨#[43]⟩ : ByteArray), wrap64 (x13_2 + 1)⟩ : S33), (⟨2, (⟨#[118]⟩ : ByteArray), 0⟩ : S33)] : List (S33))) := ⟨_, rfl⟩
                     replace H : (if x12_2.length + y244.length < 4398046511104 then (zaf.l1 k2 t218 (x12_2 ++ y244) (wrap64 (x13_2 + 1)) 2 (⟨#[118]⟩ : ByteArray) 0) else (none)) = some r := by first | (rw [hy244]; with_reducible exact H) | (have H2_ := (Option.bind_some _ _).symm.trans H; rw [hy244]; with_reducible exact H2_) | (have H2_ := (Option.bind_some _ _).symm.trans H; with_reducible exact H2_) | with_reducible exact H | (rw [hy244]; exact H) | exact H
                     have Ny244 := zae.mk hy244
                     clear hy244
                     by_cases c78 : x12_2.length + y244.length < 4398046511104
                     ·rw [if_pos c78] at H
                      have LMc78 := zae.mk c78
                      clear c78
                      obtain ⟨y247, hy247⟩ : ∃ y_ : List (S33), y_ = (x12_2 ++ y244) := ⟨_, rfl⟩
                      replace H : (zaf.l1 k2 t218 y247 (wrap64 (x13_2 + 1)) 2 (⟨#[118]⟩ : ByteArray) 0) = some r := by first | (rw [hy247]; with_reducible exact H) | (have H2_ := (Option.bind_some _ _).symm.trans H; rw [hy247]; with_reducible exact H2_) | (have H2_ := (Option.bind_some _ _).symm.trans H; with_reducible exact H2_) | with_reducible exact H | (rw [hy247]; exact H) | exact H
                      have Ny247 := zae.mk hy247
                      clear hy247
                      have H' := zae.mk H
                      clear H
                      have hcz79_0 : wr.cell? ⟨gb240, 0, none⟩ = some (.int .u8 2) := (zas BK240.out 0).trans rfl
                      have hcz79_1 : wr.cell? ⟨gb240, 1, none⟩ = some (.string (⟨#[118]⟩ : ByteArray)) := (zas BK240.out 1).trans rfl
                      have hcz79_2 : wr.cell? ⟨gb240, 2, none⟩ = some (.int .i64 0) := (zas BK240.out 2).trans rfl
                      have hfz79_0 := zao BK240.out 0
                      have hfz79_1 := zao BK240.out 1
                      have hfz79_2 := zao BK240.out 2
                      go_wp2_with (first | ((with_reducible refine zbs (N := 159) rfl ?_); (try (refine zbf (by rfl) ?_; dsimp only)); refine Kd.R_lit k33 _ 33 ?hg (N := 159) ?hd (xs := ([(⟨3, (⟨#[43]⟩ : ByteArray), wrap64 (x13_2 + 1)⟩ : S33), (⟨2, (⟨#[118]⟩ : ByteArray), 0⟩ : S33)] : List (S33))) (inner := [.int .u8 3, .string (⟨#[43]⟩ : ByteArray), .int .i64 (wrap64 (x13_2 + 1)), .int .u8 2, .string (⟨#[118]⟩ : ByteArray), .int .i64 0]) (ok := fun _ => True) (okp := fun _ => True) ?hr ?hp (fun _ hk => hk) trivial (Below.refl _ _) (Nat.le_refl _) (by simp) ?_; (case hd => rfl); (case hg => rfl); (case hr => first | (go_simp; done) | (go_simp; rfl)); (case hp => exact (Reps.c3 (show Kd.M k33 _ _ _ (⟨3, (⟨#[43]⟩ : ByteArray), wrap64 (x13_2 + 1)⟩ : S33) [.int .u8 3, .string (⟨#[43]⟩ : ByteArray), .int .i64 (wrap64 (x13_2 + 1))] from (zcm _ _ _ (⟨3, (⟨#[43]⟩ : ByteArray), wrap64 (x13_2 + 1)⟩ : S33) )) (Reps.c3 (show Kd.M k33 _ _ _ (⟨2, (⟨#[118]⟩ : ByteArray), 0⟩ : S33) [.int .u8 2, .string (⟨#[118]⟩ : ByteArray), .int .i64 0] from (zcm _ _ _ (⟨2, (⟨#[118]⟩ : ByteArray), 0⟩ : S33) )) (Reps.none _ _)))); intro v245 w80 ho81 hb hg_ hnew_; clear hg_ hnew_; (first | rw [← Ny244.out] at ho81 | (simp only [Int.reduceToNat] at ho81; rw [← Ny244.out] at ho81)); have n0_ := zae.mk (Kd.za9 (by (with_reducible repeat (first | apply Kd.zah | apply Kd.zai | apply Kd.zak)); exact HO_12.out) (Kd.zbo ho81) hb); have n1_ := zae.mk (Kd.zbd (Kd.R_newB (Kd.zbp ho81 (Kd.R_lt (by (with_reducible repeat (first | apply Kd.zah | apply Kd.zai | apply Kd.zak)); exact HO_12.out))) (g := gb240) (o := .cells #[.int .u8 2, .string (⟨#[118]⟩ : ByteArray), .int .i64 0] 33 (0, 0)) (by (with_reducible repeat (first | refine zaq ?_ _ | refine zav ?_ | refine zan ?_ _)); exact BK240.out)) (zaw (by repeat (first | (with_reducible first | exact HB.out | apply zac | apply zaa | apply zad | refine zam ?_ GE240.out) | exact HB.out)))); have n2_ := zae.mk (za7 (g := gb240) (o := .cells #[.int .u8 2, .string (⟨#[118]⟩ : ByteArray), .int .i64 0] 33 (0, 0)) (by (with_reducible repeat (first | refine zaq ?_ _ | refine zav ?_ | refine zan ?_ _)); exact BK240.out) hb); have n3_ := zae.mk (zaj (by repeat (first | (with_reducible first | exact HB.out | apply zac | apply zaa | apply zad | refine zam ?_ GE240.out) | exact HB.out)) hb); clear HO_12; clear BK240; clear HB; have HO_12 := n0_; have HO246 := n1_; have BK240 := n2_; have HB := n3_; clear n0_ n1_ n2_ n3_; clear hb ho81; obtain ⟨Ao83, co83, eo83⟩ := Kd.zbc HO246.out; subst eo83) | ((with_reducible refine za4 (b := .append) (xs := #[.tmp 154, .tmp 159]) rfl ?_); (try (refine zbf (by rfl) ?_; dsimp only)); at_builtin; refine Kd.zc2 k33 (w0 := w) w.heap.size rfl (.tmp 154) (.tmp 159) 25 33 (.agg #[(.int .u8 0), (.string ⟨#[]⟩), (.int .i64 0)]) 32 rfl Tryz.underlying25 info33 rfl (by decide) (by omega) u12 x12_2 y244 _ _ _ (fun k_ => some k_ ≠ (.slice Ao83 y244.length co83 : Value).ownBlock ∧ k_ ≠ gb240) (fun _ => False) rfl rfl ?aO ?aR (fun _ _ h => h) (fun _ h => h.elim) ?aF ?aB ?aS ?aL ?_; (case aR => repeat (first | exact (Kd.za2 HO246.out).2.2 | (with_reducible refine Kd.zbt ?_ _) | (with_reducible refine Kd.zbu ?_ _) | (with_reducible refine Kd.zb2 ?_))); (case aB => exact (by repeat (first | (with_reducible first | exact HB.out | apply zac | apply zaa | apply zad | refine zam ?_ GE240.out) | exact HB.out))); (case aF => exact (fun k_ hk => ⟨Kd.fresh' (Kd.R_lt (by (with_reducible repeat (first | apply Kd.zah | apply Kd.zai | apply Kd.zak)); exact HO246.out)) k_ hk, Kd.freshB (g := gb240) (o := .cells #[.int .u8 2, .string (⟨#[118]⟩ : ByteArray), .int .i64 0] 33 (0, 0)) (by (with_reducible repeat (first | refine zaq ?_ _ | refine zav ?_ | refine zan ?_ _)); exact BK240.out) k_ hk⟩)); (case aO => exact (by (with_reducible repeat (first | apply Kd.zah | apply Kd.zai | apply Kd.zak)); exact Kd.zbi HO_12.out (fun _ hk => ⟨hk.2, hk.1⟩))); (case aS => exact (zaw (by repeat (first | (with_reducible first | exact HB.out | apply zac | apply zaa | apply zad | refine zam ?_ GE240.out) | exact HB.out)))); (case aL => have := LMc78.out; omega); intro v248 w82 ho hb hg hat; rw [← Ny247.out] at ho; have n0_ := zae.mk (zbr (g := gb240) (o := .cells #[.int .u8 2, .string (⟨#[118]⟩ : ByteArray), .int .i64 0] 33 (0, 0)) (by (with_reducible repeat (first | refine zaq ?_ _ | refine zav ?_ | refine zan ?_ _)); exact BK240.out) hg (Kd.R_away HO_12.out (fun _ hk => hk.1))); have n1_ := zae.mk (Kd.zb1 (ok := (fun k_ => k_ ≠ gb240)) (by (with_reducible repeat (first | apply Kd.zah | apply Kd.zai | apply Kd.zak)); exact Kd.zbi HO246.out (fun _ hk => ⟨hk.2, hk.1.2⟩)) hg hat); have n2_ := zae.mk (hb); have n3_ := zae.mk (ho); clear BK240; clear HO246; clear HB; clear HO_12; have BK240 := n0_; have HO246 := n1_; have HB := n2_; have HO249 := n3_; clear n0_ n1_ n2_ n3_; clear ho hb hg hat))
                      go_roundg k2
                      case measure => have := HK1.out; have := HK2.out; omega
                      case rel => exact ⟨(y247), (wrap64 (x13_2 + 1)), (by first | rfl | (simp; done) | (simp [*]; done)), H', ⟨by have := HK1.out; have := HK2.out; omega⟩, ⟨by (with_reducible repeat (first | apply Kd.zah | apply Kd.zai | apply Kd.zak)); exact Kd.zbi HO249.out (fun _ hk => hk.2)⟩, ⟨by (with_reducible repeat (first | refine zaq ?_ _ | refine zav ?_ | refine zan ?_ _)); exact BK240.out⟩, ⟨by repeat (first | (with_reducible first | exact HB.out | apply zac | apply zaa | apply zad | refine zam ?_ GE240.out) | exact HB.out)⟩⟩
                     ·rw [if_neg c78] at H
                      exact absurd H (by simp)
                    ·rw [if_neg c77] at H
                     have c77b0 : decide (x13_2 < 20) = false := decide_eq_false c77
                     clear c77
                     replace H := Option.bind_eq_some_iff.mp H
                     obtain ⟨⟨t250, t251, t252⟩, A840, H⟩ := H
                     replace H : (zaf.l2 k2 t218 t251 t252 ([] : List (S33)) 0 2 (⟨#[118]⟩ : ByteArray) 0) = some r := H
                     have A84 := zae.mk A840
                     clear A840
                     have H' := zae.mk H
                     clear H
                     obtain ⟨Ao85, co85, eo85⟩ := Kd.zbc HO_12.out
                     subst eo85
                     go_wp2_with (first | ((with_reducible refine zar (f := 10) rfl ?_); refine za6 (some 163) rfl rfl Tryz.func10 (by kernel_rfl) rfl #[.slice Ao85 x12_2.length co85, .int .i64 0] rfl (by (try simp only [List.map_toArray, List.map_cons, List.map_nil]); first | done | rfl | (simp only [List.length_drop, List.length_take]; rfl)) ?_; (with_reducible refine (zax.calls k2 _ _ x12_2 0 t250 t251 t252 _ ?side1 ?side2 ?side3 A84.out).mono ?_); (case side1 => repeat (first | exact (Kd.za2 HO_12.out).2.2 | (with_reducible refine Kd.zbt ?_ _) | (with_reducible refine Kd.zbu ?_ _) | (with_reducible refine Kd.zb2 ?_))); (case side2 => exact (Kd.za2 HO_12.out).2.1); (case side3 => exact Tabs.below hT (by repeat (first | (with_reducible first | exact HB.out | apply zac | apply zaa | apply zad | refine zam ?_ GE240.out) | exact HB.out))); rintro e w86 ⟨v253, rfl, ho0, hb⟩; refine ⟨_, rfl, ?_⟩; have n0_ := zae.mk (Kd.zay (by (with_reducible repeat (first | apply Kd.zah | apply Kd.zai | apply Kd.zak)); exact HO_12.out) hb); have n1_ := zae.mk (Kd.zbd ho0 (zaw (by repeat (first | (with_reducible first | exact HB.out | apply zac | apply zaa | apply zad | refine zam ?_ GE240.out) | exact HB.out)))); have n2_ := zae.mk (za7 (g := gb240) (o := .cells #[.int .u8 2, .string (⟨#[118]⟩ : ByteArray), .int .i64 0] 33 (0, 0)) (by (with_reducible repeat (first | refine zaq ?_ _ | refine zav ?_ | refine zan ?_ _)); exact BK240.out) hb); have n3_ := zae.mk (zaj (by repeat (first | (with_reducible first | exact HB.out | apply zac | apply zaa | apply zad | refine zam ?_ GE240.out) | exact HB.out)) hb); clear HO_12; clear BK240; clear HB; have HO_12 := n0_; have HO254 := n1_; have BK240 := n2_; have HB := n3_; clear n0_ n1_ n2_ n3_; (try clear hb); (try clear hb2); (try clear hk); (try clear hi); (try clear ho0)))
                     go_loopg [17, 19] k2 (fun kq v17 v19 w' => ∃ (x17_3 : List (S33)) (x19_3 : Int), v19 = .int .i64 x19_3 ∧ zae (zaf.l2 kq t218 t251 t252 x17_3 x19_3 2 (⟨#[118]⟩ : ByteArray) 0 = some r) ∧ zae (kq ≤ k2) ∧ zae (Kd.R k33 33 w' w.heap.size (fun k_ => k_ ≠ gb240) v17 x17_3) ∧ zae (w'.heap[gb240]? = some (.cells #[.int .u8 2, .string (⟨#[118]⟩ : ByteArray), .int .i64 0] 33 (0, 0))) ∧ zae (Below w.heap.size w w'))
                     case atStart => exact ⟨(([] : List (S33))), (0), (by first | rfl | (simp; done) | (simp [*]; done)), H', ⟨Nat.le_refl _⟩, ⟨by first | exact Kd.R_nil _ _ _ _ _ | exact Kd.N_nil _ _ _ _ _ | exact Kd.V_nil _ _ _ _ _ | exact Kd.Q_nil _ _ _ _ _ | exact Kd.S_nil _ _ _ _ _⟩, ⟨by (with_reducible repeat (first | refine zaq ?_ _ | refine zav ?_ | refine zan ?_ _)); exact BK240.out⟩, ⟨by repeat (first | (with_reducible first | exact HB.out | apply zac | apply zaa | apply zad | refine zam ?_ GE240.out) | exact HB.out)⟩⟩
                     case round =>
                      clear H'
                      try clear c1
                      try clear c2
                      try clear p2
                      try clear q2
                      try clear hx2
                      try clear c3
                      try clear c4
                      try clear c5
                      try clear c6
                      try clear p6
                      try clear c7
                      try clear c8
                      try clear c9
                      try clear c10
                      try clear c12
                      try clear c14
                      try clear c16
                      try clear c18
                      try clear c20
                      try clear c22
                      try clear p22
                      try clear q22
                      try clear hx22
                      try clear p23
                      try clear q23
                      try clear hx23
                      try clear c24
                      try clear c26
                      try clear c28
                      try clear c49
                      try clear c49b0
                      try clear c50
                      try clear c50b0
                      try clear c58
                      try clear c58b0
                      try clear c58b1
                      try clear c59
                      try clear c59b0
                      try clear c60
                      try clear c60b0
                      try clear c61
                      try clear c61b0
                      try clear c61b1
                      try clear c62
                      try clear c62b0
                      try clear c62b1
                      try clear c63
                      try clear c63b0
                      try clear c64
                      try clear c64b0
                      try clear c64b1
                      try clear p64
                      try clear c67
                      try clear c67b0
                      try clear c68
                      try clear c68b0
                      try clear c68b1
                      try clear c71
                      try clear c77
                      try clear c77b0
                      try clear c78
                      try clear hcz74_0
                      try clear hcz74_1
                      try clear hcz74_2
                      try clear hcz79_0
                      try clear hcz79_1
                      try clear hcz79_2
                      try clear hfz74_0
                      try clear hfz74_1
                      try clear hfz74_2
                      try clear hfz79_0
                      try clear hfz79_1
                      try clear hfz79_2
                      try clear hx225_0
                      try clear hx236_0
                      try clear hx237_0
                      try clear hx238_0
                      try clear hx239_0
                      try clear p2
                      try clear p22
                      try clear p225
                      try clear p23
                      try clear p236
                      try clear p237
                      try clear p238
                      try clear p239
                      try clear p6
                      try clear p64
                      try clear q2
                      try clear q22
                      try clear q225
                      try clear q23
                      try clear q236
                      try clear q237
                      try clear q238
                      try clear q239
                      obtain ⟨x17_3, x19_3, rfl, HA, HK3, HO_17, BK240, HB⟩ := hrel
                      cases gk with
                      | zero => exact absurd HA.out (by simp [zaf.l2])
                      | succ k3 =>
                       have H := HA.out
                       clear HA
                       simp only [zaf.l2] at H
                       by_cases c87 : x19_3 < 20
                       ·rw [if_pos c87] at H
                        have c87b0 : decide (x19_3 < 20) = true := decide_eq_true c87
                        clear c87
                        by_cases c88 : x17_3.length < 4398046511104
                        ·rw [if_pos c88] at H
                         have LMc88 := zae.mk c88
                         clear c88
                         obtain ⟨y255, hy255⟩ : ∃ y_ : List (S33), y_ = (x17_3 ++ [(⟨3, (⟨#[45]⟩ : ByteArray), 0⟩ : S33)]) := ⟨_, rfl⟩
                         replace H : (zaf.l2 k3 t218 t251 t252 y255 (wrap64 (x19_3 + 1)) 2 (⟨#[118]⟩ : ByteArray) 0) = some r := by first | (rw [hy255]; with_reducible exact H) | (have H2_ := (Option.bind_some _ _).symm.trans H; rw [hy255]; with_reducible exact H2_) | (have H2_ := (Option.bind_some _ _).symm.trans H; with_reducible exact H2_) | with_reducible exact H | (rw [hy255]; exact H) | exact H
                         have Ny255 := zae.mk hy255
                         clear hy255
                         have H' := zae.mk H
                         clear H
                         go_wp2_with (first | ((with_reducible refine za4 (b := .append) (xs := #[.tmp 171, .tmp 173]) rfl ?_); (try (refine zbf (by rfl) ?_; dsimp only)); at_builtin; refine Kd.zbm k33 (w0 := w) w.heap.size rfl (.tmp 171) (.tmp 173) 25 33 (.agg #[(.int .u8 0), (.string ⟨#[]⟩), (.int .i64 0)]) 32 rfl Tryz.underlying25 info33 rfl (by decide) (by omega) u17 x17_3 (⟨3, (⟨#[45]⟩ : ByteArray), 0⟩ : S33) [.int .u8 3, .string (⟨#[45]⟩ : ByteArray), .int .i64 0] (fun k_ => k_ ≠ gb240) (fun _ => False) rfl rfl ?aP (fun _ hk => hk.elim) ?aF ?aO ?aB ?aS ?aL ?_; (case aP => exact zcm _ _ _ (⟨3, (⟨#[45]⟩ : ByteArray), 0⟩ : S33)); (case aB => exact (by repeat (first | (with_reducible first | exact HB.out | apply zac | apply zaa | apply zad | refine zam ?_ GE240.out) | exact HB.out))); (case aF => exact (fun k_ hk => Kd.freshB (g := gb240) (o := .cells #[.int .u8 2, .string (⟨#[118]⟩ : ByteArray), .int .i64 0] 33 (0, 0)) (by (with_reducible repeat (first | refine zaq ?_ _ | refine zav ?_ | refine zan ?_ _)); exact BK240.out) k_ hk)); (case aO => exact (by (with_reducible repeat (first | apply Kd.zah | apply Kd.zai | apply Kd.zak)); exact HO_17.out)); (case aS => exact (zaw (by repeat (first | (with_reducible first | exact HB.out | apply zac | apply zaa | apply zad | refine zam ?_ GE240.out) | exact HB.out)))); (case aL => have := LMc88.out; omega); intro v256 w89 ho hb hg hat; rw [← Ny255.out] at ho; have n0_ := zae.mk (zbr (g := gb240) (o := .cells #[.int .u8 2, .string (⟨#[118]⟩ : ByteArray), .int .i64 0] 33 (0, 0)) (by (with_reducible repeat (first | refine zaq ?_ _ | refine zav ?_ | refine zan ?_ _)); exact BK240.out) hg (Kd.R_away HO_17.out (fun _ hk => hk))); have n1_ := zae.mk (hb); have n2_ := zae.mk (ho); clear BK240; clear HB; clear HO_17; have BK240 := n0_; have HB := n1_; have HO257 := n2_; clear n0_ n1_ n2_; clear ho hb hg hat))
                         go_roundg k3
                         case measure => have := HK1.out; have := HK2.out; have := HK3.out; omega
                         case rel => exact ⟨(y255), (wrap64 (x19_3 + 1)), (by first | rfl | (simp; done) | (simp [*]; done)), H', ⟨by have := HK1.out; have := HK2.out; have := HK3.out; omega⟩, ⟨by (with_reducible repeat (first | apply Kd.zah | apply Kd.zai | apply Kd.zak)); exact HO257.out⟩, ⟨by (with_reducible repeat (first | refine zaq ?_ _ | refine zav ?_ | refine zan ?_ _)); exact BK240.out⟩, ⟨by repeat (first | (with_reducible first | exact HB.out | apply zac | apply zaa | apply zad | refine zam ?_ GE240.out) | exact HB.out)⟩⟩
                        ·rw [if_neg c88] at H
                         exact absurd H (by simp)
                       ·rw [if_neg c87] at H
                        have c87b0 : decide (x19_3 < 20) = false := decide_eq_false c87
                        clear c87
                        have H' := zae.mk H
                        clear H
                        go_wp2
                        go_loopg [18, 20] k3 (fun kq v18 v20 w' => ∃ (x18_4 : List (S33)) (x20_4 : Int), v20 = .int .i64 x20_4 ∧ zae (zaf.l3 kq t218 t251 t252 x17_3 x18_4 x20_4 2 (⟨#[118]⟩ : ByteArray) 0 = some r) ∧ zae (kq ≤ k3) ∧ zae (Kd.R k33 33 w' w.heap.size (fun k_ => some k_ ≠ (v18 : Value).ownBlock ∧ k_ ≠ gb240) u17 x17_3) ∧ zae (Kd.R k33 33 w' w.heap.size (fun k_ => some k_ ≠ (u17 : Value).ownBlock ∧ k_ ≠ gb240) v18 x18_4) ∧ zae (w'.heap[gb240]? = some (.cells #[.int .u8 2, .string (⟨#[118]⟩ : ByteArray), .int .i64 0] 33 (0, 0))) ∧ zae (Below w.heap.size w w'))
                        case atStart => exact ⟨(([] : List (S33))), (0), (by first | rfl | (simp; done) | (simp [*]; done)), H', ⟨Nat.le_refl _⟩, ⟨by (with_reducible repeat (first | apply Kd.zah | apply Kd.zai | apply Kd.zak)); exact Kd.zbi HO_17.out (fun _ hk => ⟨(by simp [Value.ownBlock]), hk⟩)⟩, ⟨by first | exact Kd.R_nil _ _ _ _ _ | exact Kd.N_nil _ _ _ _ _ | exact Kd.V_nil _ _ _ _ _ | exact Kd.Q_nil _ _ _ _ _ | exact Kd.S_nil _ _ _ _ _⟩, ⟨by (with_reducible repeat (first | refine zaq ?_ _ | refine zav ?_ | refine zan ?_ _)); exact BK240.out⟩, ⟨by repeat (first | (with_reducible first | exact HB.out | apply zac | apply zaa | apply zad | refine zam ?_ GE240.out) | exact HB.out)⟩⟩
                        case round =>
                         clear H'
                         try clear c1
                         try clear c2
                         try clear p2
                         try clear q2
                         try clear hx2
                         try clear c3
                         try clear c4
                         try clear c5
                         try clear c6
                         try clear p6
                         try clear c7
                         try clear c8
                         try clear c9
                         try clear c10
                         try clear c12
                         try clear c14
                         try clear c16
                         try clear c18
                         try clear c20
                         try clear c22
                         try clear p22
                         try clear q22
                         try clear hx22
                         try clear p23
                         try clear q23
                         try clear hx23
                         try clear c24
                         try clear c26
                         try clear c28
                         try clear c49
                         try clear c49b0
                         try clear c50
                         try clear c50b0
                         try clear c58
                         try clear c58b0
                         try clear c58b1
                         try clear c59
                         try clear c59b0
                         try clear c60
                         try clear c60b0
                         try clear c61
                         try clear c61b0
                         try clear c61b1
                         try clear c62
                         try clear c62b0
                         try clear c62b1
                         try clear c63
                         try clear c63b0
                         try clear c64
                         try clear c64b0
                         try clear c64b1
                         try clear p64
                         try clear c67
                         try clear c67b0
                         try clear c68
                         try clear c68b0
                         try clear c68b1
                         try clear c71
                         try clear c77
                         try clear c77b0
                         try clear c78
                         try clear c87
                         try clear c87b0
                         try clear c88
                         try clear hcz74_0
                         try clear hcz74_1
                         try clear hcz74_2
                         try clear hcz79_0
                         try clear hcz79_1
                         try clear hcz79_2
                         try clear hfz74_0
                         try clear hfz74_1
                         try clear hfz74_2
                         try clear hfz79_0
                         try clear hfz79_1
                         try clear hfz79_2
                         try clear hx225_0
                         try clear hx236_0
                         try clear hx237_0
                         try clear hx238_0
                         try clear hx239_0
                         try clear p2
                         try clear p22
                         try clear p225
                         try clear p23
                         try clear p236
                         try clear p237
                         try clear p238
                         try clear p239
                         try clear p6
                         try clear p64
                         try clear q2
                         try clear q22
                         try clear q225
                         try clear q23
                         try clear q236
                         try clear q237
                         try clear q238
                         try clear q239
                         obtain ⟨x18_4, x20_4, rfl, HA, HK4, HO_17, HO_18, BK240, HB⟩ := hrel
                         cases gk with
                         | zero => exact absurd HA.out (by simp [zaf.l3])
                         | succ k4 =>
                          have H := HA.out
                          clear HA
                          simp only [zaf.l3] at H
                          by_cases c90 : x20_4 < 60
                          ·rw [if_pos c90] at H
                           have c90b0 : decide (x20_4 < 60) = true := decide_eq_true c90
                           clear c90
                           by_cases c91 : x18_4.length < 4398046511104
                           ·rw [if_pos c91] at H
                            have LMc91 := zae.mk c91
                            clear c91
                            obtain ⟨y258, hy258⟩ : ∃ y_ : List (S33), y_ = (x18_4 ++ [(⟨3, (⟨#[40]⟩ : ByteArray), 0⟩ : S33)]) := ⟨_, rfl⟩
                            replace H : (zaf.l3 k4 t218 t251 t252 x17_3 y258 (wrap64 (x20_4 + 1)) 2 (⟨#[118]⟩ : ByteArray) 0) = some r := by first | (rw [hy258]; with_reducible exact H) | (have H2_ := (Option.bind_some _ _).symm.trans H; rw [hy258]; with_reducible exact H2_) | (have H2_ := (Option.bind_some _ _).symm.trans H; with_reducible exact H2_) | with_reducible exact H | (rw [hy258]; exact H) | exact H
                            have Ny258 := zae.mk hy258
                            clear hy258
                            have H' := zae.mk H
                            clear H
                            go_wp2_with (first | ((with_reducible refine za4 (b := .append) (xs := #[.tmp 179, .tmp 181]) rfl ?_); (try (refine zbf (by rfl) ?_; dsimp only)); at_builtin; refine Kd.zbm k33 (w0 := w) w.heap.size rfl (.tmp 179) (.tmp 181) 25 33 (.agg #[(.int .u8 0), (.string ⟨#[]⟩), (.int .i64 0)]) 32 rfl Tryz.underlying25 info33 rfl (by decide) (by omega) u18 x18_4 (⟨3, (⟨#[40]⟩ : ByteArray), 0⟩ : S33) [.int .u8 3, .string (⟨#[40]⟩ : ByteArray), .int .i64 0] (fun k_ => some k_ ≠ (u17 : Value).ownBlock ∧ k_ ≠ gb240) (fun _ => False) rfl rfl ?aP (fun _ hk => hk.elim) ?aF ?aO ?aB ?aS ?aL ?_; (case aP => exact zcm _ _ _ (⟨3, (⟨#[40]⟩ : ByteArray), 0⟩ : S33)); (case aB => exact (by repeat (first | (with_reducible first | exact HB.out | apply zac | apply zaa | apply zad | refine zam ?_ GE240.out) | exact HB.out))); (case aF => exact (fun k_ hk => ⟨Kd.fresh' (Kd.R_lt (by (with_reducible repeat (first | apply Kd.zah | apply Kd.zai | apply Kd.zak)); exact HO_17.out)) k_ hk, Kd.freshB (g := gb240) (o := .cells #[.int .u8 2, .string (⟨#[118]⟩ : ByteArray), .int .i64 0] 33 (0, 0)) (by (with_reducible repeat (first | refine zaq ?_ _ | refine zav ?_ | refine zan ?_ _)); exact BK240.out) k_ hk⟩)); (case aO => exact (by (with_reducible repeat (first | apply Kd.zah | apply Kd.zai | apply Kd.zak)); exact HO_18.out)); (case aS => exact (zaw (by repeat (first | (with_reducible first | exact HB.out | apply zac | apply zaa | apply zad | refine zam ?_ GE240.out) | exact HB.out)))); (case aL => have := LMc91.out; omega); intro v259 w92 ho hb hg hat; rw [← Ny258.out] at ho; have n0_ := zae.mk (Kd.zb1 (ok := (fun k_ => k_ ≠ gb240)) (by (with_reducible repeat (first | apply Kd.zah | apply Kd.zai | apply Kd.zak)); exact Kd.zbi HO_17.out (fun _ hk => ⟨hk.2, hk.1⟩)) hg hat); have n1_ := zae.mk (zbr (g := gb240) (o := .cells #[.int .u8 2, .string (⟨#[118]⟩ : ByteArray), .int .i64 0] 33 (0, 0)) (by (with_reducible repeat (first | refine zaq ?_ _ | refine zav ?_ | refine zan ?_ _)); exact BK240.out) hg (Kd.R_away HO_18.out (fun _ hk => hk.2))); have n2_ := zae.mk (hb); have n3_ := zae.mk (ho); clear HO_17; clear BK240; clear HB; clear HO_18; have HO_17 := n0_; have BK240 := n1_; have HB := n2_; have HO260 := n3_; clear n0_ n1_ n2_ n3_; clear ho hb hg hat))
                            go_roundg k4
                            case measure => have := HK1.out; have := HK2.out; have := HK3.out; have := HK4.out; omega
                            case rel => exact ⟨(y258), (wrap64 (x20_4 + 1)), (by first | rfl | (simp; done) | (simp [*]; done)), H', ⟨by have := HK1.out; have := HK2.out; have := HK3.out; have := HK4.out; omega⟩, ⟨by (with_reducible repeat (first | apply Kd.zah | apply Kd.zai | apply Kd.zak)); exact Kd.zbi HO_17.out (fun _ hk => ⟨hk.2, hk.1⟩)⟩, ⟨by (with_reducible repeat (first | apply Kd.zah | apply Kd.zai | apply Kd.zak)); exact HO260.out⟩, ⟨by (with_reducible repeat (first | refine zaq ?_ _ | refine zav ?_ | refine zan ?_ _)); exact BK240.out⟩, ⟨by repeat (first | (with_reducible first | exact HB.out | apply zac | apply zaa | apply zad | refine zam ?_ GE240.out) | exact HB.out)⟩⟩
                           ·rw [if_neg c91] at H
                            exact absurd H (by simp)
                          ·rw [if_neg c90] at H
                           have c90b0 : decide (x20_4 < 60) = false := decide_eq_false c90
                           clear c90
                           by_cases c93 : x18_4.length < 4398046511104
                           ·rw [if_pos c93] at H
                            have LMc93 := zae.mk c93
                            clear c93
                            obtain ⟨y261, hy261⟩ : ∃ y_ : List (S33), y_ = (x18_4 ++ [(⟨2, (⟨#[118]⟩ : ByteArray), 0⟩ : S33)]) := ⟨_, rfl⟩
                            replace H : (zaf.l4 k4 t218 t251 t252 x17_3 y261 0 2 (⟨#[118]⟩ : ByteArray) 0) = some r := by first | (rw [hy261]; with_reducible exact H) | (have H2_ := (Option.bind_some _ _).symm.trans H; rw [hy261]; with_reducible exact H2_) | (have H2_ := (Option.bind_some _ _).symm.trans H; with_reducible exact H2_) | with_reducible exact H | (rw [hy261]; exact H) | exact H
                            have Ny261 := zae.mk hy261
                            clear hy261
                            have H' := zae.mk H
                            clear H
                            have hcz94_0 : wr.cell? ⟨gb240, 0, none⟩ = some (.int .u8 2) := (zas BK240.out 0).trans rfl
                            have hcz94_1 : wr.cell? ⟨gb240, 1, none⟩ = some (.string (⟨#[118]⟩ : ByteArray)) := (zas BK240.out 1).trans rfl
                            have hcz94_2 : wr.cell? ⟨gb240, 2, none⟩ = some (.int .i64 0) := (zas BK240.out 2).trans rfl
                            have hfz94_0 := zao BK240.out 0
                            have hfz94_1 := zao BK240.out 1
                            have hfz94_2 := zao BK240.out 2
                            go_wp2_with (first | ((with_reducible refine za4 (b := .append) (xs := #[.tmp 183, .tmp 185]) rfl ?_); (try (refine zbf (by rfl) ?_; dsimp only)); at_builtin; refine Kd.zbm k33 (w0 := w) w.heap.size rfl (.tmp 183) (.tmp 185) 25 33 (.agg #[(.int .u8 0), (.string ⟨#[]⟩), (.int .i64 0)]) 32 rfl Tryz.underlying25 info33 rfl (by decide) (by omega) u18 x18_4 (⟨2, (⟨#[118]⟩ : ByteArray), 0⟩ : S33) [.int .u8 2, .string (⟨#[118]⟩ : ByteArray), .int .i64 0] (fun k_ => some k_ ≠ (u17 : Value).ownBlock ∧ k_ ≠ gb240) (fun _ => False) rfl rfl ?aP (fun _ hk => hk.elim) ?aF ?aO ?aB ?aS ?aL ?_; (case aP => exact zcm _ _ _ (⟨2, (⟨#[118]⟩ : ByteArray), 0⟩ : S33)); (case aB => exact (by repeat (first | (with_reducible first | exact HB.out | apply zac | apply zaa | apply zad | refine zam ?_ GE240.out) | exact HB.out))); (case aF => exact (fun k_ hk => ⟨Kd.fresh' (Kd.R_lt (by (with_reducible repeat (first | apply Kd.zah | apply Kd.zai | apply Kd.zak)); exact HO_17.out)) k_ hk, Kd.freshB (g := gb240) (o := .cells #[.int .u8 2, .string (⟨#[118]⟩ : ByteArray), .int .i64 0] 33 (0, 0)) (by (with_reducible repeat (first | refine zaq ?_ _ | refine zav ?_ | refine zan ?_ _)); exact BK240.out) k_ hk⟩)); (case aO => exact (by (with_reducible repeat (first | apply Kd.zah | apply Kd.zai | apply Kd.zak)); exact HO_18.out)); (case aS => exact (zaw (by repeat (first | (with_reducible first | exact HB.out | apply zac | apply zaa | apply zad | refine zam ?_ GE240.out) | exact HB.out)))); (case aL => have := LMc93.out; omega); intro v262 w95 ho hb hg hat; rw [← Ny261.out] at ho; have n0_ := zae.mk (Kd.zb1 (ok := (fun k_ => k_ ≠ gb240)) (by (with_reducible repeat (first | apply Kd.zah | apply Kd.zai | apply Kd.zak)); exact Kd.zbi HO_17.out (fun _ hk => ⟨hk.2, hk.1⟩)) hg hat); have n1_ := zae.mk (zbr (g := gb240) (o := .cells #[.int .u8 2, .string (⟨#[118]⟩ : ByteArray), .int .i64 0] 33 (0, 0)) (by (with_reducible repeat (first | refine zaq ?_ _ | refine zav ?_ | refine zan ?_ _)); exact BK240.out) hg (Kd.R_away HO_18.out (fun _ hk => hk.2))); have n2_ := zae.mk (hb); have n3_ := zae.mk (ho); clear HO_17; clear BK240; clear HB; clear HO_18; have HO_17 := n0_; have BK240 := n1_; have HB := n2_; have HO263 := n3_; clear n0_ n1_ n2_ n3_; clear ho hb hg hat))
                            go_loopg [18, 21] k4 (fun kq v18 v21 w' => ∃ (x18_5 : List (S33)) (x21_5 : Int), v21 = .int .i64 x21_5 ∧ zae (zaf.l4 kq t218 t251 t252 x17_3 x18_5 x21_5 2 (⟨#[118]⟩ : ByteArray) 0 = some r) ∧ zae (kq ≤ k4) ∧ zae (Kd.R k33 33 w' w.heap.size (fun k_ => some k_ ≠ (v18 : Value).ownBlock ∧ k_ ≠ gb240) u17 x17_3) ∧ zae (Kd.R k33 33 w' w.heap.size (fun k_ => some k_ ≠ (u17 : Value).ownBlock ∧ k_ ≠ gb240) v18 x18_5) ∧ zae (w'.heap[gb240]? = some (.cells #[.int .u8 2, .string (⟨#[118]⟩ : ByteArray), .int .i64 0] 33 (0, 0))) ∧ zae (Below w.heap.size w w'))
                            case atStart => exact ⟨(y261), (0), (by first | rfl | (simp; done) | (simp [*]; done)), H', ⟨Nat.le_refl _⟩, ⟨by (with_reducible repeat (first | apply Kd.zah | apply Kd.zai | apply Kd.zak)); exact Kd.zbi HO_17.out (fun _ hk => ⟨hk.2, hk.1⟩)⟩, ⟨by (with_reducible repeat (first | apply Kd.zah | apply Kd.zai | apply Kd.zak)); exact HO263.out⟩, ⟨by (with_reducible repeat (first | refine zaq ?_ _ | refine zav ?_ | refine zan ?_ _)); exact BK240.out⟩, ⟨by repeat (first | (with_reducible first | exact HB.out | apply zac | apply zaa | apply zad | refine zam ?_ GE240.out) | exact HB.out)⟩⟩
                            case round =>
                             clear H'
                             try clear c1
                             try clear c2
                             try clear p2
                             try clear q2
                             try clear hx2
                             try clear c3
                             try clear c4
                             try clear c5
                             try clear c6
                             try clear p6
                             try clear c7
                             try clear c8
                             try clear c9
                             try clear c10
                             try clear c12
                             try clear c14
                             try clear c16
                             try clear c18
                             try clear c20
                             try clear c22
                             try clear p22
                             try clear q22
                             try clear hx22
                             try clear p23
                             try clear q23
                             try clear hx23
                             try clear c24
                             try clear c26
                             try clear c28
                             try clear c49
                             try clear c49b0
                             try clear c50
                             try clear c50b0
                             try clear c58
                             try clear c58b0
                             try clear c58b1
                             try clear c59
                             try clear c59b0
                             try clear c60
                             try clear c60b0
                             try clear c61
                             try clear c61b0
                             try clear c61b1
                             try clear c62
                             try clear c62b0
                             try clear c62b1
                             try clear c63
                             try clear c63b0
                             try clear c64
                             try clear c64b0
                             try clear c64b1
                             try clear p64
                             try clear c67
                             try clear c67b0
                             try clear c68
                             try clear c68b0
                             try clear c68b1
                             try clear c71
                             try clear c77
                             try clear c77b0
                             try clear c78
                             try clear c87
                             try clear c87b0
                             try clear c88
                             try clear c90
                             try clear c90b0
                             try clear c91
                             try clear c93
                             try clear hcz74_0
                             try clear hcz74_1
                             try clear hcz74_2
                             try clear hcz79_0
                             try clear hcz79_1
                             try clear hcz79_2
                             try clear hcz94_0
                             try clear hcz94_1
                             try clear hcz94_2
                             try clear hfz74_0
                             try clear hfz74_1
                             try clear hfz74_2
                             try clear hfz79_0
                             try clear hfz79_1
                             try clear hfz79_2
                             try clear hfz94_0
                             try clear hfz94_1
                             try clear hfz94_2
                             try clear hx225_0
                             try clear hx236_0
                             try clear hx237_0
                             try clear hx238_0
                             try clear hx239_0
                             try clear p2
                             try clear p22
                             try clear p225
                             try clear p23
                             try clear p236
                             try clear p237
                             try clear p238
                             try clear p239
                             try clear p6
                             try clear p64
                             try clear q2
                             try clear q22
                             try clear q225
                             try clear q23
                             try clear q236
                             try clear q237
                             try clear q238
                             try clear q239
                             obtain ⟨x18_5, x21_5, rfl, HA, HK5, HO_17, HO_18, BK240, HB⟩ := hrel
                             cases gk with
                             | zero => exact absurd HA.out (by simp [zaf.l4])
                             | succ k5 =>
                              have H := HA.out
                              clear HA
                              simp only [zaf.l4] at H
                              by_cases c96 : x21_5 < 60
                              ·rw [if_pos c96] at H
                               have c96b0 : decide (x21_5 < 60) = true := decide_eq_true c96
                               clear c96
                               by_cases c97 : x18_5.length < 4398046511104
                               ·rw [if_pos c97] at H
                                have LMc97 := zae.mk c97
                                clear c97
                                obtain ⟨y264, hy264⟩ : ∃ y_ : List (S33), y_ = (x18_5 ++ [(⟨3, (⟨#[41]⟩ : ByteArray), 0⟩ : S33)]) := ⟨_, rfl⟩
                                replace H : (zaf.l4 k5 t218 t251 t252 x17_3 y264 (wrap64 (x21_5 + 1)) 2 (⟨#[118]⟩ : ByteArray) 0) = some r := by first | (rw [hy264]; with_reducible exact H) | (have H2_ := (Option.bind_some _ _).symm.trans H; rw [hy264]; with_reducible exact H2_) | (have H2_ := (Option.bind_some _ _).symm.trans H; with_reducible exact H2_) | with_reducible exact H | (rw [hy264]; exact H) | exact H
                                have Ny264 := zae.mk hy264
                                clear hy264
                                have H' := zae.mk H
                                clear H
                                go_wp2_with (first | ((with_reducible refine za4 (b := .append) (xs := #[.tmp 191, .tmp 193]) rfl ?_); (try (refine zbf (by rfl) ?_; dsimp only)); at_builtin; refine Kd.zbm k33 (w0 := w) w.heap.size rfl (.tmp 191) (.tmp 193) 25 33 (.agg #[(.int .u8 0), (.string ⟨#[]⟩), (.int .i64 0)]) 32 rfl Tryz.underlying25 info33 rfl (by decide) (by omega) u18 x18_5 (⟨3, (⟨#[41]⟩ : ByteArray), 0⟩ : S33) [.int .u8 3, .string (⟨#[41]⟩ : ByteArray), .int .i64 0] (fun k_ => some k_ ≠ (u17 : Value).ownBlock ∧ k_ ≠ gb240) (fun _ => False) rfl rfl ?aP (fun _ hk => hk.elim) ?aF ?aO ?aB ?aS ?aL ?_; (case aP => exact zcm _ _ _ (⟨3, (⟨#[41]⟩ : ByteArray), 0⟩ : S33)); (case aB => exact (by repeat (first | (with_reducible first | exact HB.out | apply zac | apply zaa | apply zad | refine zam ?_ GE240.out) | exact HB.out))); (case aF => exact (fun k_ hk => ⟨Kd.fresh' (Kd.R_lt (by (with_reducible repeat (first | apply Kd.zah | apply Kd.zai | apply Kd.zak)); exact HO_17.out)) k_ hk, Kd.freshB (g := gb240) (o := .cells #[.int .u8 2, .string (⟨#[118]⟩ : ByteArray), .int .i64 0] 33 (0, 0)) (by (with_reducible repeat (first | refine zaq ?_ _ | refine zav ?_ | refine zan ?_ _)); exact BK240.out) k_ hk⟩)); (case aO => exact (by (with_reducible repeat (first | apply Kd.zah | apply Kd.zai | apply Kd.zak)); exact HO_18.out)); (case aS => exact (zaw (by repeat (first | (with_reducible first | exact HB.out | apply zac | apply zaa | apply zad | refine zam ?_ GE240.out) | exact HB.out)))); (case aL => have := LMc97.out; omega); intro v265 w98 ho hb hg hat; rw [← Ny264.out] at ho; have n0_ := zae.mk (Kd.zb1 (ok := (fun k_ => k_ ≠ gb240)) (by (with_reducible repeat (first | apply Kd.zah | apply Kd.zai | apply Kd.zak)); exact Kd.zbi HO_17.out (fun _ hk => ⟨hk.2, hk.1⟩)) hg hat); have n1_ := zae.mk (zbr (g := gb240) (o := .cells #[.int .u8 2, .string (⟨#[118]⟩ : ByteArray), .int .i64 0] 33 (0, 0)) (by (with_reducible repeat (first | refine zaq ?_ _ | refine zav ?_ | refine zan ?_ _)); exact BK240.out) hg (Kd.R_away HO_18.out (fun _ hk => hk.2))); have n2_ := zae.mk (hb); have n3_ := zae.mk (ho); clear HO_17; clear BK240; clear HB; clear HO_18; have HO_17 := n0_; have BK240 := n1_; have HB := n2_; have HO266 := n3_; clear n0_ n1_ n2_ n3_; clear ho hb hg hat))
                                go_roundg k5
                                case measure => have := HK1.out; have := HK2.out; have := HK3.out; have := HK4.out; have := HK5.out; omega
                                case rel => exact ⟨(y264), (wrap64 (x21_5 + 1)), (by first | rfl | (simp; done) | (simp [*]; done)), H', ⟨by have := HK1.out; have := HK2.out; have := HK3.out; have := HK4.out; have := HK5.out; omega⟩, ⟨by (with_reducible repeat (first | apply Kd.zah | apply Kd.zai | apply Kd.zak)); exact Kd.zbi HO_17.out (fun _ hk => ⟨hk.2, hk.1⟩)⟩, ⟨by (with_reducible repeat (first | apply Kd.zah | apply Kd.zai | apply Kd.zak)); exact HO266.out⟩, ⟨by (with_reducible repeat (first | refine zaq ?_ _ | refine zav ?_ | refine zan ?_ _)); exact BK240.out⟩, ⟨by repeat (first | (with_reducible first | exact HB.out | apply zac | apply zaa | apply zad | refine zam ?_ GE240.out) | exact HB.out)⟩⟩
                               ·rw [if_neg c97] at H
                                exact absurd H (by simp)
                              ·rw [if_neg c96] at H
                               have c96b0 : decide (x21_5 < 60) = false := decide_eq_false c96
                               clear c96
                               by_cases c99 : x17_3.length < 4398046511104
                               ·rw [if_pos c99] at H
                                have LMc99 := zae.mk c99
                                clear c99
                                obtain ⟨y267, hy267⟩ : ∃ y_ : List (S33), y_ = (x17_3 ++ [(⟨2, (⟨#[118]⟩ : ByteArray), 0⟩ : S33)]) := ⟨_, rfl⟩
                                replace H : ((zax.f k5 y267 0).bind fun bt270 => ((zax.f k5 x18_5 0).bind fun bt275 => (if 201 ≤ 8796093022208 then ((zax.f k5 (List.replicate 201 z33) 0).bind fun bt283 => ((zax.f k5 (([(⟨0, (⟨#[]⟩ : ByteArray), 0⟩ : S33)] : List (S33))) 9).bind fun bt291 => ((zax.f k5 (([(⟨2, (⟨#[118]⟩ : ByteArray), 401⟩ : S33)] : List (S33))) 0).bind fun bt299 => ((zax.f k5 (([(⟨2, (⟨#[118]⟩ : ByteArray), 0⟩ : S33)] : List (S33))) 2).bind fun bt307 => ((zax.f k5 (([(⟨2, (⟨#[118]⟩ : ByteArray), 0⟩ : S33)] : List (S33))) 1).bind fun bt315 => ((zbh.f ([] : List (S43))).bind fun bt320 => (if t218 = true then (if t252 = 34 then (if t251 = 39 then (if bt270.2.2 = 34 then (if bt270.2.1 = 0 then (if bt275.2.2 = 0 then (if bt275.2.1 = 121 then (if (bt275.1.length : Int) = 1 then (if bt283.2.2 = 4 then (if bt291.2.2 = 8 then (if bt299.2.2 = 8 then (if bt307.2.2 = 2 then (if bt315.2.2 = 12 then (if bt315.2.1 = 1 then (if bt320.2 = 8 then ((za1.f k5).bind fun t322 => (some t322)) else (none)) else (none)) else (none)) else (none)) else (none)) else (none)) else (none)) else (none)) else (none)) else (none)) else (none)) else (none)) else (none)) else (none)) else (none)))))))) else (none)))) = some r := by first | (rw [hy267]; with_reducible exact H) | (have H2_ := (Option.bind_some _ _).symm.trans H; rw [hy267]; with_reducible exact H2_) | (have H2_ := (Option.bind_some _ _).symm.trans H; with_reducible exact H2_) | with_reducible exact H | (rw [hy267]; exact H) | exact H
                                have Ny267 := zae.mk hy267
                                clear hy267
                                replace H := Option.bind_eq_some_iff.mp H
                                obtain ⟨⟨t270, t271, t272⟩, A1000, H⟩ := H
                                replace H : ((zax.f k5 x18_5 0).bind fun bt275 => (if 201 ≤ 8796093022208 then ((zax.f k5 (List.replicate 201 z33) 0).bind fun bt283 => ((zax.f k5 (([(⟨0, (⟨#[]⟩ : ByteArray), 0⟩ : S33)] : List (S33))) 9).bind fun bt291 => ((zax.f k5 (([(⟨2, (⟨#[118]⟩ : ByteArray), 401⟩ : S33)] : List (S33))) 0).bind fun bt299 => ((zax.f k5 (([(⟨2, (⟨#[118]⟩ : ByteArray), 0⟩ : S33)] : List (S33))) 2).bind fun bt307 => ((zax.f k5 (([(⟨2, (⟨#[118]⟩ : ByteArray), 0⟩ : S33)] : List (S33))) 1).bind fun bt315 => ((zbh.f ([] : List (S43))).bind fun bt320 => (if t218 = true then (if t252 = 34 then (if t251 = 39 then (if t272 = 34 then (if t271 = 0 then (if bt275.2.2 = 0 then (if bt275.2.1 = 121 then (if (bt275.1.length : Int) = 1 then (if bt283.2.2 = 4 then (if bt291.2.2 = 8 then (if bt299.2.2 = 8 then (if bt307.2.2 = 2 then (if bt315.2.2 = 12 then (if bt315.2.1 = 1 then (if bt320.2 = 8 then ((za1.f k5).bind fun t322 => (some t322)) else (none)) else (none)) else (none)) else (none)) else (none)) else (none)) else (none)) else (none)) else (none)) else (none)) else (none)) else (none)) else (none)) else (none)) else (none)))))))) else (none))) = some r := H
                                have A100 := zae.mk A1000
                                clear A1000
                                replace H := Option.bind_eq_some_iff.mp H
                                obtain ⟨⟨t275, t276, t277⟩, A1010, H⟩ := H
                                replace H : (if 201 ≤ 8796093022208 then ((zax.f k5 (List.replicate 201 z33) 0).bind fun bt283 => ((zax.f k5 (([(⟨0, (⟨#[]⟩ : ByteArray), 0⟩ : S33)] : List (S33))) 9).bind fun bt291 => ((zax.f k5 (([(⟨2, (⟨#[118]⟩ : ByteArray), 401⟩ : S33)] : List (S33))) 0).bind fun bt299 => ((zax.f k5 (([(⟨2, (⟨#[118]⟩ : ByteArray), 0⟩ : S33)] : List (S33))) 2).bind fun bt307 => ((zax.f k5 (([(⟨2, (⟨#[118]⟩ : ByteArray), 0⟩ : S33)] : List (S33))) 1).bind fun bt315 => ((zbh.f ([] : List (S43))).bind fun bt320 => (if t218 = true then (if t252 = 34 then (if t251 = 39 then (if t272 = 34 then (if t271 = 0 then (if t277 = 0 then (if t276 = 121 then (if (t275.length : Int) = 1 then (if bt283.2.2 = 4 then (if bt291.2.2 = 8 then (if bt299.2.2 = 8 then (if bt307.2.2 = 2 then (if bt315.2.2 = 12 then (if bt315.2.1 = 1 then (if bt320.2 = 8 then ((za1.f k5).bind fun t322 => (some t322)) else (none)) else (none)) else (none)) else (none)) else (none)) else (none)) else (none)) else (none)) else (none)) else (none)) else (none)) else (none)) else (none)) else (none)) else (none)))))))) else (none)) = some r := H
                                have A101 := zae.mk A1010
                                clear A1010
                                by_cases c102 : 201 ≤ 8796093022208
                                ·rw [if_pos c102] at H
                                 have c102b0 := eq_true c102
                                 have c102b1 : decide (201 ≤ 8796093022208) = true := decide_eq_true c102
                                 clear c102
                                 obtain ⟨y280, hy280⟩ : ∃ y_ : List (S33), y_ = (List.replicate 201 z33) := ⟨_, rfl⟩
                                 replace H : ((zax.f k5 y280 0).bind fun bt283 => ((zax.f k5 (([(⟨0, (⟨#[]⟩ : ByteArray), 0⟩ : S33)] : List (S33))) 9).bind fun bt291 => ((zax.f k5 (([(⟨2, (⟨#[118]⟩ : ByteArray), 401⟩ : S33)] : List (S33))) 0).bind fun bt299 => ((zax.f k5 (([(⟨2, (⟨#[118]⟩ : ByteArray), 0⟩ : S33)] : List (S33))) 2).bind fun bt307 => ((zax.f k5 (([(⟨2, (⟨#[118]⟩ : ByteArray), 0⟩ : S33)] : List (S33))) 1).bind fun bt315 => ((zbh.f ([] : List (S43))).bind fun bt320 => (if t218 = true then (if t252 = 34 then (if t251 = 39 then (if t272 = 34 then (if t271 = 0 then (if t277 = 0 then (if t276 = 121 then (if (t275.length : Int) = 1 then (if bt283.2.2 = 4 then (if bt291.2.2 = 8 then (if bt299.2.2 = 8 then (if bt307.2.2 = 2 then (if bt315.2.2 = 12 then (if bt315.2.1 = 1 then (if bt320.2 = 8 then ((za1.f k5).bind fun t322 => (some t322)) else (none)) else (none)) else (none)) else (none)) else (none)) else (none)) else (none)) else (none)) else (none)) else (none)) else (none)) else (none)) else (none)) else (none)) else (none)))))))) = some r := by first | (rw [hy280]; with_reducible exact H) | (have H2_ := (Option.bind_some _ _).symm.trans H; rw [hy280]; with_reducible exact H2_) | (have H2_ := (Option.bind_some _ _).symm.trans H; with_reducible exact H2_) | with_reducible exact H | (rw [hy280]; exact H) | exact H
                                 have Ny280 := zae.mk hy280
                                 clear hy280
                                 replace H := Option.bind_eq_some_iff.mp H
                                 obtain ⟨⟨t283, t284, t285⟩, A1030, H⟩ := H
                                 replace H : ((zax.f k5 (([(⟨0, (⟨#[]⟩ : ByteArray), 0⟩ : S33)] : List (S33))) 9).bind fun bt291 => ((zax.f k5 (([(⟨2, (⟨#[118]⟩ : ByteArray), 401⟩ : S33)] : List (S33))) 0).bind fun bt299 => ((zax.f k5 (([(⟨2, (⟨#[118]⟩ : ByteArray), 0⟩ : S33)] : List (S33))) 2).bind fun bt307 => ((zax.f k5 (([(⟨2, (⟨#[118]⟩ : ByteArray), 0⟩ : S33)] : List (S33))) 1).bind fun bt315 => ((zbh.f ([] : List (S43))).bind fun bt320 => (if t218 = true then (if t252 = 34 then (if t251 = 39 then (if t272 = 34 then (if t271 = 0 then (if t277 = 0 then (if t276 = 121 then (if (t275.length : Int) = 1 then (if t285 = 4 then (if bt291.2.2 = 8 then (if bt299.2.2 = 8 then (if bt307.2.2 = 2 then (if bt315.2.2 = 12 then (if bt315.2.1 = 1 then (if bt320.2 = 8 then ((za1.f k5).bind fun t322 => (some t322)) else (none)) else (none)) else (none)) else (none)) else (none)) else (none)) else (none)) else (none)) else (none)) else (none)) else (none)) else (none)) else (none)) else (none)) else (none))))))) = some r := H
                                 have A103 := zae.mk A1030
                                 clear A1030
                                 obtain ⟨y288, hy288⟩ : ∃ y_ : List (S33), y_ = (([(⟨0, (⟨#[]⟩ : ByteArray), 0⟩ : S33)] : List (S33))) := ⟨_, rfl⟩
                                 replace H : ((zax.f k5 y288 9).bind fun bt291 => ((zax.f k5 (([(⟨2, (⟨#[118]⟩ : ByteArray), 401⟩ : S33)] : List (S33))) 0).bind fun bt299 => ((zax.f k5 (([(⟨2, (⟨#[118]⟩ : ByteArray), 0⟩ : S33)] : List (S33))) 2).bind fun bt307 => ((zax.f k5 (([(⟨2, (⟨#[118]⟩ : ByteArray), 0⟩ : S33)] : List (S33))) 1).bind fun bt315 => ((zbh.f ([] : List (S43))).bind fun bt320 => (if t218 = true then (if t252 = 34 then (if t251 = 39 then (if t272 = 34 then (if t271 = 0 then (if t277 = 0 then (if t276 = 121 then (if (t275.length : Int) = 1 then (if t285 = 4 then (if bt291.2.2 = 8 then (if bt299.2.2 = 8 then (if bt307.2.2 = 2 then (if bt315.2.2 = 12 then (if bt315.2.1 = 1 then (if bt320.2 = 8 then ((za1.f k5).bind fun t322 => (some t322)) else (none)) else (none)) else (none)) else (none)) else (none)) else (none)) else (none)) else (none)) else (none)) else (none)) else (none)) else (none)) else (none)) else (none)) else (none))))))) = some r := by first | (rw [hy288]; with_reducible exact H) | (have H2_ := (Option.bind_some _ _).symm.trans H; rw [hy288]; with_reducible exact H2_) | (have H2_ := (Option.bind_some _ _).symm.trans H; with_reducible exact H2_) | with_reducible exact H | (rw [hy288]; exact H) | exact H
                                 have Ny288 := zae.mk hy288
                                 clear hy288
                                 replace H := Option.bind_eq_some_iff.mp H
                                 obtain ⟨⟨t291, t292, t293⟩, A1040, H⟩ := H
                                 replace H : ((zax.f k5 (([(⟨2, (⟨#[118]⟩ : ByteArray), 401⟩ : S33)] : List (S33))) 0).bind fun bt299 => ((zax.f k5 (([(⟨2, (⟨#[118]⟩ : ByteArray), 0⟩ : S33)] : List (S33))) 2).bind fun bt307 => ((zax.f k5 (([(⟨2, (⟨#[118]⟩ : ByteArray), 0⟩ : S33)] : List (S33))) 1).bind fun bt315 => ((zbh.f ([] : List (S43))).bind fun bt320 => (if t218 = true then (if t252 = 34 then (if t251 = 39 then (if t272 = 34 then (if t271 = 0 then (if t277 = 0 then (if t276 = 121 then (if (t275.length : Int) = 1 then (if t285 = 4 then (if t293 = 8 then (if bt299.2.2 = 8 then (if bt307.2.2 = 2 then (if bt315.2.2 = 12 then (if bt315.2.1 = 1 then (if bt320.2 = 8 then ((za1.f k5).bind fun t322 => (some t322)) else (none)) else (none)) else (none)) else (none)) else (none)) else (none)) else (none)) else (none)) else (none)) else (none)) else (none)) else (none)) else (none)) else (none)) else (none)))))) = some r := H
                                 have A104 := zae.mk A1040
                                 clear A1040
                                 obtain ⟨y296, hy296⟩ : ∃ y_ : List (S33), y_ = (([(⟨2, (⟨#[118]⟩ : ByteArray), 401⟩ : S33)] : List (S33))) := ⟨_, rfl⟩
                                 replace H : ((zax.f k5 y296 0).bind fun bt299 => ((zax.f k5 (([(⟨2, (⟨#[118]⟩ : ByteArray), 0⟩ : S33)] : List (S33))) 2).bind fun bt307 => ((zax.f k5 (([(⟨2, (⟨#[118]⟩ : ByteArray), 0⟩ : S33)] : List (S33))) 1).bind fun bt315 => ((zbh.f ([] : List (S43))).bind fun bt320 => (if t218 = true then (if t252 = 34 then (if t251 = 39 then (if t272 = 34 then (if t271 = 0 then (if t277 = 0 then (if t276 = 121 then (if (t275.length : Int) = 1 then (if t285 = 4 then (if t293 = 8 then (if bt299.2.2 = 8 then (if bt307.2.2 = 2 then (if bt315.2.2 = 12 then (if bt315.2.1 = 1 then (if bt320.2 = 8 then ((za1.f k5).bind fun t322 => (some t322)) else (none)) else (none)) else (none)) else (none)) else (none)) else (none)) else (none)) else (none)) else (none)) else (none)) else (none)) else (none)) else (none)) else (none)) else (none)))))) = some r := by first | (rw [hy296]; with_reducible exact H) | (have H2_ := (Option.bind_some _ _).symm.trans H; rw [hy296]; with_reducible exact H2_) | (have H2_ := (Option.bind_some _ _).symm.trans H; with_reducible exact H2_) | with_reducible exact H | (rw [hy296]; exact H) | exact H
                                 have Ny296 := zae.mk hy296
                                 clear hy296
                                 replace H := Option.bind_eq_some_iff.mp H
                                 obtain ⟨⟨t299, t300, t301⟩, A1050, H⟩ := H
                                 replace H : ((zax.f k5 (([(⟨2, (⟨#[118]⟩ : ByteArray), 0⟩ : S33)] : List (S33))) 2).bind fun bt307 => ((zax.f k5 (([(⟨2, (⟨#[118]⟩ : ByteArray), 0⟩ : S33)] : List (S33))) 1).bind fun bt315 => ((zbh.f ([] : List (S43))).bind fun bt320 => (if t218 = true then (if t252 = 34 then (if t251 = 39 then (if t272 = 34 then (if t271 = 0 then (if t277 = 0 then (if t276 = 121 then (if (t275.length : Int) = 1 then (if t285 = 4 then (if t293 = 8 then (if t301 = 8 then (if bt307.2.2 = 2 then (if bt315.2.2 = 12 then (if bt315.2.1 = 1 then (if bt320.2 = 8 then ((za1.f k5).bind fun t322 => (some t322)) else (none)) else (none)) else (none)) else (none)) else (none)) else (none)) else (none)) else (none)) else (none)) else (none)) else (none)) else (none)) else (none)) else (none)) else (none))))) = some r := H
                                 have A105 := zae.mk A1050
                                 clear A1050
                                 obtain ⟨y304, hy304⟩ : ∃ y_ : List (S33), y_ = (([(⟨2, (⟨#[118]⟩ : ByteArray), 0⟩ : S33)] : List (S33))) := ⟨_, rfl⟩
                                 replace H : ((zax.f k5 y304 2).bind fun bt307 => ((zax.f k5 (([(⟨2, (⟨#[118]⟩ : ByteArray), 0⟩ : S33)] : List (S33))) 1).bind fun bt315 => ((zbh.f ([] : List (S43))).bind fun bt320 => (if t218 = true then (if t252 = 34 then (if t251 = 39 then (if t272 = 34 then (if t271 = 0 then (if t277 = 0 then (if t276 = 121 then (if (t275.length : Int) = 1 then (if t285 = 4 then (if t293 = 8 then (if t301 = 8 then (if bt307.2.2 = 2 then (if bt315.2.2 = 12 then (if bt315.2.1 = 1 then (if bt320.2 = 8 then ((za1.f k5).bind fun t322 => (some t322)) else (none)) else (none)) else (none)) else (none)) else (none)) else (none)) else (none)) else (none)) else (none)) else (none)) else (none)) else (none)) else (none)) else (none)) else (none))))) = some r := by first | (rw [hy304]; with_reducible exact H) | (have H2_ := (Option.bind_some _ _).symm.trans H; rw [hy304]; with_reducible exact H2_) | (have H2_ := (Option.bind_some _ _).symm.trans H; with_reducible exact H2_) | with_reducible exact H | (rw [hy304]; exact H) | exact H
                                 have Ny304 := zae.mk hy304
                                 clear hy304
                                 replace H := Option.bind_eq_some_iff.mp H
                                 obtain ⟨⟨t307, t308, t309⟩, A1060, H⟩ := H
                                 replace H : ((zax.f k5 (([(⟨2, (⟨#[118]⟩ : ByteArray), 0⟩ : S33)] : List (S33))) 1).bind fun bt315 => ((zbh.f ([] : List (S43))).bind fun bt320 => (if t218 = true then (if t252 = 34 then (if t251 = 39 then (if t272 = 34 then (if t271 = 0 then (if t277 = 0 then (if t276 = 121 then (if (t275.length : Int) = 1 then (if t285 = 4 then (if t293 = 8 then (if t301 = 8 then (if t309 = 2 then (if bt315.2.2 = 12 then (if bt315.2.1 = 1 then (if bt320.2 = 8 then ((za1.f k5).bind fun t322 => (some t322)) else (none)) else (none)) else (none)) else (none)) else (none)) else (none)) else (none)) else (none)) else (none)) else (none)) else (none)) else (none)) else (none)) else (none)) else (none)))) = some r := H
                                 have A106 := zae.mk A1060
                                 clear A1060
                                 obtain ⟨y312, hy312⟩ : ∃ y_ : List (S33), y_ = (([(⟨2, (⟨#[118]⟩ : ByteArray), 0⟩ : S33)] : List (S33))) := ⟨_, rfl⟩
                                 replace H : ((zax.f k5 y312 1).bind fun bt315 => ((zbh.f ([] : List (S43))).bind fun bt320 => (if t218 = true then (if t252 = 34 then (if t251 = 39 then (if t272 = 34 then (if t271 = 0 then (if t277 = 0 then (if t276 = 121 then (if (t275.length : Int) = 1 then (if t285 = 4 then (if t293 = 8 then (if t301 = 8 then (if t309 = 2 then (if bt315.2.2 = 12 then (if bt315.2.1 = 1 then (if bt320.2 = 8 then ((za1.f k5).bind fun t322 => (some t322)) else (none)) else (none)) else (none)) else (none)) else (none)) else (none)) else (none)) else (none)) else (none)) else (none)) else (none)) else (none)) else (none)) else (none)) else (none)))) = some r := by first | (rw [hy312]; with_reducible exact H) | (have H2_ := (Option.bind_some _ _).symm.trans H; rw [hy312]; with_reducible exact H2_) | (have H2_ := (Option.bind_some _ _).symm.trans H; with_reducible exact H2_) | with_reducible exact H | (rw [hy312]; exact H) | exact H
                                 have Ny312 := zae.mk hy312
                                 clear hy312
                                 replace H := Option.bind_eq_some_iff.mp H
                                 obtain ⟨⟨t315, t316, t317⟩, A1070, H⟩ := H
                                 replace H : ((zbh.f ([] : List (S43))).bind fun bt320 => (if t218 = true then (if t252 = 34 then (if t251 = 39 then (if t272 = 34 then (if t271 = 0 then (if t277 = 0 then (if t276 = 121 then (if (t275.length : Int) = 1 then (if t285 = 4 then (if t293 = 8 then (if t301 = 8 then (if t309 = 2 then (if t317 = 12 then (if t316 = 1 then (if bt320.2 = 8 then ((za1.f k5).bind fun t322 => (some t322)) else (none)) else (none)) else (none)) else (none)) else (none)) else (none)) else (none)) else (none)) else (none)) else (none)) else (none)) else (none)) else (none)) else (none)) else (none))) = some r := H
                                 have A107 := zae.mk A1070
                                 clear A1070
                                 replace H := Option.bind_eq_some_iff.mp H
                                 obtain ⟨⟨t320, t321⟩, A1080, H⟩ := H
                                 replace H : (if t218 = true then (if t252 = 34 then (if t251 = 39 then (if t272 = 34 then (if t271 = 0 then (if t277 = 0 then (if t276 = 121 then (if (t275.length : Int) = 1 then (if t285 = 4 then (if t293 = 8 then (if t301 = 8 then (if t309 = 2 then (if t317 = 12 then (if t316 = 1 then (if t321 = 8 then ((za1.f k5).bind fun t322 => (some t322)) else (none)) else (none)) else (none)) else (none)) else (none)) else (none)) else (none)) else (none)) else (none)) else (none)) else (none)) else (none)) else (none)) else (none)) else (none)) = some r := H
                                 have A108 := zae.mk A1080
                                 clear A1080
                                 by_cases c109 : t218 = true
                                 ·subst c109
                                  have H1 : (if t252 = 34 then (if t251 = 39 then (if t272 = 34 then (if t271 = 0 then (if t277 = 0 then (if t276 = 121 then (if (t275.length : Int) = 1 then (if t285 = 4 then (if t293 = 8 then (if t301 = 8 then (if t309 = 2 then (if t317 = 12 then (if t316 = 1 then (if t321 = 8 then ((za1.f k5).bind fun t322 => (some t322)) else (none)) else (none)) else (none)) else (none)) else (none)) else (none)) else (none)) else (none)) else (none)) else (none)) else (none)) else (none)) else (none)) else (none)) = some r := by rw [if_pos rfl] at H; exact H
                                  clear H
                                  have H := H1
                                  clear H1
                                  by_cases c110 : t252 = 34
                                  ·rw [if_pos c110] at H
                                   have c110b0 : (t252 == 34) = true := beq_iff_eq.mpr c110
                                   have c110b1 : (t252 != 34) = false := bne_eq_false_iff_eq.mpr c110
                                   clear c110
                                   by_cases c111 : t251 = 39
                                   ·rw [if_pos c111] at H
                                    have c111b0 : (t251 == 39) = true := beq_iff_eq.mpr c111
                                    have c111b1 : (t251 != 39) = false := bne_eq_false_iff_eq.mpr c111
                                    clear c111
                                    by_cases c112 : t272 = 34
                                    ·rw [if_pos c112] at H
                                     have c112b0 : (t272 == 34) = true := beq_iff_eq.mpr c112
                                     have c112b1 : (t272 != 34) = false := bne_eq_false_iff_eq.mpr c112
                                     clear c112
                                     by_cases c113 : t271 = 0
                                     ·rw [if_pos c113] at H
                                      have c113b0 : (t271 == 0) = true := beq_iff_eq.mpr c113
                                      have c113b1 : (t271 != 0) = false := bne_eq_false_iff_eq.mpr c113
                                      clear c113
                                      by_cases c114 : t277 = 0
                                      ·rw [if_pos c114] at H
                                       have c114b0 : (t277 == 0) = true := beq_iff_eq.mpr c114
                                       have c114b1 : (t277 != 0) = false := bne_eq_false_iff_eq.mpr c114
                                       clear c114
                                       by_cases c115 : t276 = 121
                                       ·rw [if_pos c115] at H
                                        have c115b0 : (t276 == 121) = true := beq_iff_eq.mpr c115
                                        have c115b1 : (t276 != 121) = false := bne_eq_false_iff_eq.mpr c115
                                        clear c115
                                        by_cases c116 : (t275.length : Int) = 1
                                        ·rw [if_pos c116] at H
                                         have c116b0 : ((t275.length : Int) == 1) = true := beq_iff_eq.mpr c116
                                         have c116b1 : ((t275.length : Int) != 1) = false := bne_eq_false_iff_eq.mpr c116
                                         clear c116
                                         by_cases c117 : t285 = 4
                                         ·rw [if_pos c117] at H
                                          have c117b0 : (t285 == 4) = true := beq_iff_eq.mpr c117
                                          have c117b1 : (t285 != 4) = false := bne_eq_false_iff_eq.mpr c117
                                          clear c117
                                          by_cases c118 : t293 = 8
                                          ·rw [if_pos c118] at H
                                           have c118b0 : (t293 == 8) = true := beq_iff_eq.mpr c118
                                           have c118b1 : (t293 != 8) = false := bne_eq_false_iff_eq.mpr c118
                                           clear c118
                                           by_cases c119 : t301 = 8
                                           ·rw [if_pos c119] at H
                                            have c119b0 : (t301 == 8) = true := beq_iff_eq.mpr c119
                                            have c119b1 : (t301 != 8) = false := bne_eq_false_iff_eq.mpr c119
                                            clear c119
                                            by_cases c120 : t309 = 2
                                            ·rw [if_pos c120] at H
                                             have c120b0 : (t309 == 2) = true := beq_iff_eq.mpr c120
                                             have c120b1 : (t309 != 2) = false := bne_eq_false_iff_eq.mpr c120
                                             clear c120
                                             by_cases c121 : t317 = 12
                                             ·rw [if_pos c121] at H
                                              have c121b0 : (t317 == 12) = true := beq_iff_eq.mpr c121
                                              have c121b1 : (t317 != 12) = false := bne_eq_false_iff_eq.mpr c121
                                              clear c121
                                              by_cases c122 : t316 = 1
                                              ·rw [if_pos c122] at H
                                               have c122b0 : (t316 == 1) = true := beq_iff_eq.mpr c122
                                               have c122b1 : (t316 != 1) = false := bne_eq_false_iff_eq.mpr c122
                                               clear c122
                                               by_cases c123 : t321 = 8
                                               ·rw [if_pos c123] at H
                                                have c123b0 : (t321 == 8) = true := beq_iff_eq.mpr c123
                                                have c123b1 : (t321 != 8) = false := bne_eq_false_iff_eq.mpr c123
                                                clear c123
                                                replace H := Option.bind_eq_some_iff.mp H
                                                obtain ⟨t322, A1240, H⟩ := H
                                                replace H : (some t322) = some r := H
                                                have A124 := zae.mk A1240
                                                clear A1240
                                                obtain rfl := Option.some.inj H
                                                have hcz125_0 : wr.cell? ⟨gb240, 0, none⟩ = some (.int .u8 2) := (zas BK240.out 0).trans rfl
                                                have hcz125_1 : wr.cell? ⟨gb240, 1, none⟩ = some (.string (⟨#[118]⟩ : ByteArray)) := (zas BK240.out 1).trans rfl
                                                have hcz125_2 : wr.cell? ⟨gb240, 2, none⟩ = some (.int .i64 0) := (zas BK240.out 2).trans rfl
                                                have hfz125_0 := zao BK240.out 0
                                                have hfz125_1 := zao BK240.out 1
                                                have hfz125_2 := zao BK240.out 2
                                                go_wp2_with (first | ((with_reducible refine za4 (b := .append) (xs := #[.tmp 195, .tmp 197]) rfl ?_); (try (refine zbf (by rfl) ?_; dsimp only)); at_builtin; refine Kd.zbm k33 (w0 := w) w.heap.size rfl (.tmp 195) (.tmp 197) 25 33 (.agg #[(.int .u8 0), (.string ⟨#[]⟩), (.int .i64 0)]) 32 rfl Tryz.underlying25 info33 rfl (by decide) (by omega) u17 x17_3 (⟨2, (⟨#[118]⟩ : ByteArray), 0⟩ : S33) [.int .u8 2, .string (⟨#[118]⟩ : ByteArray), .int .i64 0] (fun k_ => some k_ ≠ (u18 : Value).ownBlock ∧ k_ ≠ gb240) (fun _ => False) rfl rfl ?aP (fun _ hk => hk.elim) ?aF ?aO ?aB ?aS ?aL ?_; (case aP => exact zcm _ _ _ (⟨2, (⟨#[118]⟩ : ByteArray), 0⟩ : S33)); (case aB => exact (by repeat (first | (with_reducible first | exact HB.out | apply zac | apply zaa | apply zad | refine zam ?_ GE240.out) | exact HB.out))); (case aF => exact (fun k_ hk => ⟨Kd.fresh' (Kd.R_lt (by (with_reducible repeat (first | apply Kd.zah | apply Kd.zai | apply Kd.zak)); exact HO_18.out)) k_ hk, Kd.freshB (g := gb240) (o := .cells #[.int .u8 2, .string (⟨#[118]⟩ : ByteArray), .int .i64 0] 33 (0, 0)) (by (with_reducible repeat (first | refine zaq ?_ _ | refine zav ?_ | refine zan ?_ _)); exact BK240.out) k_ hk⟩)); (case aO => exact (by (with_reducible repeat (first | apply Kd.zah | apply Kd.zai | apply Kd.zak)); exact HO_17.out)); (case aS => exact (zaw (by repeat (first | (with_reducible first | exact HB.out | apply zac | apply zaa | apply zad | refine zam ?_ GE240.out) | exact HB.out)))); (case aL => have := LMc99.out; omega); intro v268 w126 ho hb hg hat; rw [← Ny267.out] at ho; have n0_ := zae.mk (Kd.zb1 (ok := (fun k_ => k_ ≠ gb240)) (by (with_reducible repeat (first | apply Kd.zah | apply Kd.zai | apply Kd.zak)); exact Kd.zbi HO_18.out (fun _ hk => ⟨hk.2, hk.1⟩)) hg hat); have n1_ := zae.mk (zbr (g := gb240) (o := .cells #[.int .u8 2, .string (⟨#[118]⟩ : ByteArray), .int .i64 0] 33 (0, 0)) (by (with_reducible repeat (first | refine zaq ?_ _ | refine zav ?_ | refine zan ?_ _)); exact BK240.out) hg (Kd.R_away HO_17.out (fun _ hk => hk.2))); have n2_ := zae.mk (hb); have n3_ := zae.mk (ho); clear HO_18; clear BK240; clear HB; clear HO_17; have HO_18 := n0_; have BK240 := n1_; have HB := n2_; have HO269 := n3_; clear n0_ n1_ n2_ n3_; clear ho hb hg hat; obtain ⟨Ao127, co127, eo127⟩ := Kd.zbc HO269.out; subst eo127) | ((with_reducible refine zar (f := 10) rfl ?_); refine za6 (some 201) rfl rfl Tryz.func10 (by kernel_rfl) rfl #[.slice Ao127 y267.length co127, .int .i64 0] rfl (by (try simp only [List.map_toArray, List.map_cons, List.map_nil]); first | done | rfl | (simp only [List.length_drop, List.length_take]; rfl)) ?_; (with_reducible refine (zax.calls k5 _ _ y267 0 t270 t271 t272 _ ?side1 ?side2 ?side3 A100.out).mono ?_); (case side1 => repeat (first | exact (Kd.za2 HO269.out).2.2 | (with_reducible refine Kd.zbt ?_ _) | (with_reducible refine Kd.zbu ?_ _) | (with_reducible refine Kd.zb2 ?_))); (case side2 => exact (Kd.za2 HO269.out).2.1); (case side3 => exact Tabs.below hT (by repeat (first | (with_reducible first | exact HB.out | apply zac | apply zaa | apply zad | refine zam ?_ GE240.out) | exact HB.out))); rintro e w128 ⟨v273, rfl, ho0, hb⟩; refine ⟨_, rfl, ?_⟩; have n0_ := zae.mk (Kd.zay (by (with_reducible repeat (first | apply Kd.zah | apply Kd.zai | apply Kd.zak)); exact HO_18.out) hb); have n1_ := zae.mk (Kd.zay (by (with_reducible repeat (first | apply Kd.zah | apply Kd.zai | apply Kd.zak)); exact HO269.out) hb); have n2_ := zae.mk (Kd.zbd ho0 (zaw (by repeat (first | (with_reducible first | exact HB.out | apply zac | apply zaa | apply zad | refine zam ?_ GE240.out) | exact HB.out)))); have n3_ := zae.mk (za7 (g := gb240) (o := .cells #[.int .u8 2, .string (⟨#[118]⟩ : ByteArray), .int .i64 0] 33 (0, 0)) (by (with_reducible repeat (first | refine zaq ?_ _ | refine zav ?_ | refine zan ?_ _)); exact BK240.out) hb); have n4_ := zae.mk (zaj (by repeat (first | (with_reducible first | exact HB.out | apply zac | apply zaa | apply zad | refine zam ?_ GE240.out) | exact HB.out)) hb); clear HO_18; clear HO269; clear BK240; clear HB; have HO_18 := n0_; have HO269 := n1_; have HO274 := n2_; have BK240 := n3_; have HB := n4_; clear n0_ n1_ n2_ n3_ n4_; (try clear hb); (try clear hb2); (try clear hk); (try clear hi); (try clear ho0); obtain ⟨Ao129, co129, eo129⟩ := Kd.zbc HO_18.out; subst eo129) | ((with_reducible refine zar (f := 10) rfl ?_); refine za6 (some 207) rfl rfl Tryz.func10 (by kernel_rfl) rfl #[.slice Ao129 x18_5.length co129, .int .i64 0] rfl (by (try simp only [List.map_toArray, List.map_cons, List.map_nil]); first | done | rfl | (simp only [List.length_drop, List.length_take]; rfl)) ?_; (with_reducible refine (zax.calls k5 _ _ x18_5 0 t275 t276 t277 _ ?side1 ?side2 ?side3 A101.out).mono ?_); (case side1 => repeat (first | exact (Kd.za2 HO_18.out).2.2 | (with_reducible refine Kd.zbt ?_ _) | (with_reducible refine Kd.zbu ?_ _) | (with_reducible refine Kd.zb2 ?_))); (case side2 => exact (Kd.za2 HO_18.out).2.1); (case side3 => exact Tabs.below hT (by repeat (first | (with_reducible first | exact HB.out | apply zac | apply zaa | apply zad | refine zam ?_ GE240.out) | exact HB.out))); rintro e w130 ⟨v278, rfl, ho0, hb⟩; refine ⟨_, rfl, ?_⟩; have n0_ := zae.mk (Kd.zay (by (with_reducible repeat (first | apply Kd.zah | apply Kd.zai | apply Kd.zak)); exact HO_18.out) hb); have n1_ := zae.mk (Kd.zay (by (with_reducible repeat (first | apply Kd.zah | apply Kd.zai | apply Kd.zak)); exact HO269.out) hb); have n2_ := zae.mk (Kd.za9 (by (with_reducible repeat (first | apply Kd.zah | apply Kd.zai | apply Kd.zak)); exact HO274.out) (Kd.zbo ho0) hb); have n3_ := zae.mk (Kd.zbd (Kd.zbp ho0 (Kd.R_lt (by (with_reducible repeat (first | apply Kd.zah | apply Kd.zai | apply Kd.zak)); exact HO274.out))) (zaw (by repeat (first | (with_reducible first | exact HB.out | apply zac | apply zaa | apply zad | refine zam ?_ GE240.out) | exact HB.out)))); have n4_ := zae.mk (za7 (g := gb240) (o := .cells #[.int .u8 2, .string (⟨#[118]⟩ : ByteArray), .int .i64 0] 33 (0, 0)) (by (with_reducible repeat (first | refine zaq ?_ _ | refine zav ?_ | refine zan ?_ _)); exact BK240.out) hb); have n5_ := zae.mk (zaj (by repeat (first | (with_reducible first | exact HB.out | apply zac | apply zaa | apply zad | refine zam ?_ GE240.out) | exact HB.out)) hb); clear HO_18; clear HO269; clear HO274; clear BK240; clear HB; have HO_18 := n0_; have HO269 := n1_; have HO274 := n2_; have HO279 := n3_; have BK240 := n4_; have HB := n5_; clear n0_ n1_ n2_ n3_ n4_ n5_; (try clear hb); (try clear hb2); (try clear hk); (try clear hi); (try clear ho0)) | ((with_reducible refine zbs (N := 212) rfl ?_); (try (refine zbf (by rfl) ?_; dsimp only)); refine Kd.R_make k33 _ 33 rfl (N := 212) rfl 25 _ _ rfl 201 rfl rfl Tryz.underlying25 (.agg #[(.int .u8 0), (.string ⟨#[]⟩), (.int .i64 0)]) 32 info33 rfl (by decide) (by omega) z33 (ok := fun _ => True) (okp := fun _ => True) (zcm _ _ _ z33 ) (fun _ hk => hk) trivial (by omega) (by omega) (Below.refl _ _) (Nat.le_refl _) ?_; intro v281 w131 ho132 hb hg_ hnew_; clear hg_ hnew_; (first | rw [← Ny280.out] at ho132 | (simp only [Int.reduceToNat] at ho132; rw [← Ny280.out] at ho132)); have n0_ := zae.mk (Kd.za9 (by (with_reducible repeat (first | apply Kd.zah | apply Kd.zai | apply Kd.zak)); exact HO_18.out) (Kd.zbo ho132) hb); have n1_ := zae.mk (Kd.za9 (by (with_reducible repeat (first | apply Kd.zah | apply Kd.zai | apply Kd.zak)); exact HO269.out) (Kd.zbo ho132) hb); have n2_ := zae.mk (Kd.zay (by (with_reducible repeat (first | apply Kd.zah | apply Kd.zai | apply Kd.zak)); exact HO274.out) hb); have n3_ := zae.mk (Kd.zay (by (with_reducible repeat (first | apply Kd.zah | apply Kd.zai | apply Kd.zak)); exact HO279.out) hb); have n4_ := zae.mk (Kd.zbd (Kd.R_newB (Kd.zbp (Kd.zbp ho132 (Kd.R_lt (by (with_reducible repeat (first | apply Kd.zah | apply Kd.zai | apply Kd.zak)); exact HO_18.out))) (Kd.R_lt (by (with_reducible repeat (first | apply Kd.zah | apply Kd.zai | apply Kd.zak)); exact HO269.out))) (g := gb240) (o := .cells #[.int .u8 2, .string (⟨#[118]⟩ : ByteArray), .int .i64 0] 33 (0, 0)) (by (with_reducible repeat (first | refine zaq ?_ _ | refine zav ?_ | refine zan ?_ _)); exact BK240.out)) (zaw (by repeat (first | (with_reducible first | exact HB.out | apply zac | apply zaa | apply zad | refine zam ?_ GE240.out) | exact HB.out)))); have n5_ := zae.mk (za7 (g := gb240) (o := .cells #[.int .u8 2, .string (⟨#[118]⟩ : ByteArray), .int .i64 0] 33 (0, 0)) (by (with_reducible repeat (first | refine zaq ?_ _ | refine zav ?_ | refine zan ?_ _)); exact BK240.out) hb); have n6_ := zae.mk (zaj (by repeat (first | (with_reducible first | exact HB.out | apply zac | apply zaa | apply zad | refine zam ?_ GE240.out) | exact HB.out)) hb); clear HO_18; clear HO269; clear HO274; clear HO279; clear BK240; clear HB; have HO_18 := n0_; have HO269 := n1_; have HO274 := n2_; have HO279 := n3_; have HO282 := n4_; have BK240 := n5_; have HB := n6_; clear n0_ n1_ n2_ n3_ n4_ n5_ n6_; clear hb ho132; obtain ⟨Ao133, co133, eo133⟩ := Kd.zbc HO282.out; subst eo133) | ((with_reducible refine zar (f := 10) rfl ?_); refine za6 (some 213) rfl rfl Tryz.func10 (by kernel_rfl) rfl #[.slice Ao133 y280.length co133, .int .i64 0] rfl (by (try simp only [List.map_toArray, List.map_cons, List.map_nil]); first | done | rfl | (simp only [List.length_drop, List.length_take]; rfl)) ?_; (with_reducible refine (zax.calls k5 _ _ y280 0 t283 t284 t285 _ ?side1 ?side2 ?side3 A103.out).mono ?_); (case side1 => repeat (first | exact (Kd.za2 HO282.out).2.2 | (with_reducible refine Kd.zbt ?_ _) | (with_reducible refine Kd.zbu ?_ _) | (with_reducible refine Kd.zb2 ?_))); (case side2 => exact (Kd.za2 HO282.out).2.1); (case side3 => exact Tabs.below hT (by repeat (first | (with_reducible first | exact HB.out | apply zac | apply zaa | apply zad | refine zam ?_ GE240.out) | exact HB.out))); rintro e w134 ⟨v286, rfl, ho0, hb⟩; refine ⟨_, rfl, ?_⟩; have n0_ := zae.mk (Kd.zay (by (with_reducible repeat (first | apply Kd.zah | apply Kd.zai | apply Kd.zak)); exact HO_18.out) hb); have n1_ := zae.mk (Kd.zay (by (with_reducible repeat (first | apply Kd.zah | apply Kd.zai | apply Kd.zak)); exact HO269.out) hb); have n2_ := zae.mk (Kd.za9 (by (with_reducible repeat (first | apply Kd.zah | apply Kd.zai | apply Kd.zak)); exact HO274.out) (Kd.zbo ho0) hb); have n3_ := zae.mk (Kd.za9 (by (with_reducible repeat (first | apply Kd.zah | apply Kd.zai | apply Kd.zak)); exact HO279.out) (Kd.zbo ho0) hb); have n4_ := zae.mk (Kd.zay (by (with_reducible repeat (first | apply Kd.zah | apply Kd.zai | apply Kd.zak)); exact HO282.out) hb); have n5_ := zae.mk (Kd.zbd (Kd.zbp (Kd.zbp ho0 (Kd.R_lt (by (with_reducible repeat (first | apply Kd.zah | apply Kd.zai | apply Kd.zak)); exact HO274.out))) (Kd.R_lt (by (with_reducible repeat (first | apply Kd.zah | apply Kd.zai | apply Kd.zak)); exact HO279.out))) (zaw (by repeat (first | (with_reducible first | exact HB.out | apply zac | apply zaa | apply zad | refine zam ?_ GE240.out) | exact HB.out)))); have n6_ := zae.mk (za7 (g := gb240) (o := .cells #[.int .u8 2, .string (⟨#[118]⟩ : ByteArray), .int .i64 0] 33 (0, 0)) (by (with_reducible repeat (first | refine zaq ?_ _ | refine zav ?_ | refine zan ?_ _)); exact BK240.out) hb); have n7_ := zae.mk (zaj (by repeat (first | (with_reducible first | exact HB.out | apply zac | apply zaa | apply zad | refine zam ?_ GE240.out) | exact HB.out)) hb); clear HO_18; clear HO269; clear HO274; clear HO279; clear HO282; clear BK240; clear HB; have HO_18 := n0_; have HO269 := n1_; have HO274 := n2_; have HO279 := n3_; have HO282 := n4_; have HO287 := n5_; have BK240 := n6_; have HB := n7_; clear n0_ n1_ n2_ n3_ n4_ n5_ n6_ n7_; (try clear hb); (try clear hb2); (try clear hk); (try clear hi); (try clear ho0)) | ((with_reducible refine zbs (N := 219) rfl ?_); (try (refine zbf (by rfl) ?_; dsimp only)); refine Kd.R_lit k33 _ 33 ?hg (N := 219) ?hd (xs := ([(⟨0, (⟨#[]⟩ : ByteArray), 0⟩ : S33)] : List (S33))) (inner := [.int .u8 0, .string (⟨#[]⟩ : ByteArray), .int .i64 0]) (ok := fun _ => True) (okp := fun _ => True) ?hr ?hp (fun _ hk => hk) trivial (Below.refl _ _) (Nat.le_refl _) (by simp) ?_; (case hd => rfl); (case hg => rfl); (case hr => first | (go_simp; done) | (go_simp; rfl)); (case hp => exact (Reps.c3 (show Kd.M k33 _ _ _ (⟨0, (⟨#[]⟩ : ByteArray), 0⟩ : S33) [.int .u8 0, .string (⟨#[]⟩ : ByteArray), .int .i64 0] from (zcm _ _ _ (⟨0, (⟨#[]⟩ : ByteArray), 0⟩ : S33) )) (Reps.none _ _))); intro v289 w135 ho136 hb hg_ hnew_; clear hg_ hnew_; (first | rw [← Ny288.out] at ho136 | (simp only [Int.reduceToNat] at ho136; rw [← Ny288.out] at ho136)); have n0_ := zae.mk (Kd.za9 (by (with_reducible repeat (first | apply Kd.zah | apply Kd.zai | apply Kd.zak)); exact HO_18.out) (Kd.zbo ho136) hb); have n1_ := zae.mk (Kd.za9 (by (with_reducible repeat (first | apply Kd.zah | apply Kd.zai | apply Kd.zak)); exact HO269.out) (Kd.zbo ho136) hb); have n2_ := zae.mk (Kd.zay (by (with_reducible repeat (first | apply Kd.zah | apply Kd.zai | apply Kd.zak)); exact HO274.out) hb); have n3_ := zae.mk (Kd.zay (by (with_reducible repeat (first | apply Kd.zah | apply Kd.zai | apply Kd.zak)); exact HO279.out) hb); have n4_ := zae.mk (Kd.za9 (by (with_reducible repeat (first | apply Kd.zah | apply Kd.zai | apply Kd.zak)); exact HO282.out) (Kd.zbo ho136) hb); have n5_ := zae.mk (Kd.zay (by (with_reducible repeat (first | apply Kd.zah | apply Kd.zai | apply Kd.zak)); exact HO287.out) hb); have n6_ := zae.mk (Kd.zbd (Kd.R_newB (Kd.zbp (Kd.zbp (Kd.zbp ho136 (Kd.R_lt (by (with_reducible repeat (first | apply Kd.zah | apply Kd.zai | apply Kd.zak)); exact HO_18.out))) (Kd.R_lt (by (with_reducible repeat (first | apply Kd.zah | apply Kd.zai | apply Kd.zak)); exact HO269.out))) (Kd.R_lt (by (with_reducible repeat (first | apply Kd.zah | apply Kd.zai | apply Kd.zak)); exact HO282.out))) (g := gb240) (o := .cells #[.int .u8 2, .string (⟨#[118]⟩ : ByteArray), .int .i64 0] 33 (0, 0)) (by (with_reducible repeat (first | refine zaq ?_ _ | refine zav ?_ | refine zan ?_ _)); exact BK240.out)) (zaw (by repeat (first | (with_reducible first | exact HB.out | apply zac | apply zaa | apply zad | refine zam ?_ GE240.out) | exact HB.out)))); have n7_ := zae.mk (za7 (g := gb240) (o := .cells #[.int .u8 2, .string (⟨#[118]⟩ : ByteArray), .int .i64 0] 33 (0, 0)) (by (with_reducible repeat (first | refine zaq ?_ _ | refine zav ?_ | refine zan ?_ _)); exact BK240.out) hb); have n8_ := zae.mk (zaj (by repeat (first | (with_reducible first | exact HB.out | apply zac | apply zaa | apply zad | refine zam ?_ GE240.out) | exact HB.out)) hb); clear HO_18; clear HO269; clear HO274; clear HO279; clear HO282; clear HO287; clear BK240; clear HB; have HO_18 := n0_; have HO269 := n1_; have HO274 := n2_; have HO279 := n3_; have HO282 := n4_; have HO287 := n5_; have HO290 := n6_; have BK240 := n7_; have HB := n8_; clear n0_ n1_ n2_ n3_ n4_ n5_ n6_ n7_ n8_; clear hb ho136; obtain ⟨Ao137, co137, eo137⟩ := Kd.zbc HO290.out; subst eo137) | ((with_reducible refine zar (f := 10) rfl ?_); refine za6 (some 220) rfl rfl Tryz.func10 (by kernel_rfl) rfl #[.slice Ao137 y288.length co137, .int .i64 9] rfl (by (try simp only [List.map_toArray, List.map_cons, List.map_nil]); first | done | rfl | (simp only [List.length_drop, List.length_take]; rfl)) ?_; (with_reducible refine (zax.calls k5 _ _ y288 9 t291 t292 t293 _ ?side1 ?side2 ?side3 A104.out).mono ?_); (case side1 => repeat (first | exact (Kd.za2 HO290.out).2.2 | (with_reducible refine Kd.zbt ?_ _) | (with_reducible refine Kd.zbu ?_ _) | (with_reducible refine Kd.zb2 ?_))); (case side2 => exact (Kd.za2 HO290.out).2.1); (case side3 => exact Tabs.below hT (by repeat (first | (with_reducible first | exact HB.out | apply zac | apply zaa | apply zad | refine zam ?_ GE240.out) | exact HB.out))); rintro e w138 ⟨v294, rfl, ho0, hb⟩; refine ⟨_, rfl, ?_⟩; have n0_ := zae.mk (Kd.zay (by (with_reducible repeat (first | apply Kd.zah | apply Kd.zai | apply Kd.zak)); exact HO_18.out) hb); have n1_ := zae.mk (Kd.zay (by (with_reducible repeat (first | apply Kd.zah | apply Kd.zai | apply Kd.zak)); exact HO269.out) hb); have n2_ := zae.mk (Kd.za9 (by (with_reducible repeat (first | apply Kd.zah | apply Kd.zai | apply Kd.zak)); exact HO274.out) (Kd.zbo ho0) hb); have n3_ := zae.mk (Kd.za9 (by (with_reducible repeat (first | apply Kd.zah | apply Kd.zai | apply Kd.zak)); exact HO279.out) (Kd.zbo ho0) hb); have n4_ := zae.mk (Kd.zay (by (with_reducible repeat (first | apply Kd.zah | apply Kd.zai | apply Kd.zak)); exact HO282.out) hb); have n5_ := zae.mk (Kd.za9 (by (with_reducible repeat (first | apply Kd.zah | apply Kd.zai | apply Kd.zak)); exact HO287.out) (Kd.zbo ho0) hb); have n6_ := zae.mk (Kd.zay (by (with_reducible repeat (first | apply Kd.zah | apply Kd.zai | apply Kd.zak)); exact HO290.out) hb); have n7_ := zae.mk (Kd.zbd (Kd.zbp (Kd.zbp (Kd.zbp ho0 (Kd.R_lt (by (with_reducible repeat (first | apply Kd.zah | apply Kd.zai | apply Kd.zak)); exact HO274.out))) (Kd.R_lt (by (with_reducible repeat (first | apply Kd.zah | apply Kd.zai | apply Kd.zak)); exact HO279.out))) (Kd.R_lt (by (with_reducible repeat (first | apply Kd.zah | apply Kd.zai | apply Kd.zak)); exact HO287.out))) (zaw (by repeat (first | (with_reducible first | exact HB.out | apply zac | apply zaa | apply zad | refine zam ?_ GE240.out) | exact HB.out)))); have n8_ := zae.mk (za7 (g := gb240) (o := .cells #[.int .u8 2, .string (⟨#[118]⟩ : ByteArray), .int .i64 0] 33 (0, 0)) (by (with_reducible repeat (first | refine zaq ?_ _ | refine zav ?_ | refine zan ?_ _)); exact BK240.out) hb); have n9_ := zae.mk (zaj (by repeat (first | (with_reducible first | exact HB.out | apply zac | apply zaa | apply zad | refine zam ?_ GE240.out) | exact HB.out)) hb); clear HO_18; clear HO269; clear HO274; clear HO279; clear HO282; clear HO287; clear HO290; clear BK240; clear HB; have HO_18 := n0_; have HO269 := n1_; have HO274 := n2_; have HO279 := n3_; have HO282 := n4_; have HO287 := n5_; have HO290 := n6_; have HO295 := n7_; have BK240 := n8_; have HB := n9_; clear n0_ n1_ n2_ n3_ n4_ n5_ n6_ n7_ n8_ n9_; (try clear hb); (try clear hb2); (try clear hk); (try clear hi); (try clear ho0)) | ((with_reducible refine zbs (N := 226) rfl ?_); (try (refine zbf (by rfl) ?_; dsimp only)); refine Kd.R_lit k33 _ 33 ?hg (N := 226) ?hd (xs := ([(⟨2, (⟨#[118]⟩ : ByteArray), 401⟩ : S33)] : List (S33))) (inner := [.int .u8 2, .string (⟨#[118]⟩ : ByteArray), .int .i64 401]) (ok := fun _ => True) (okp := fun _ => True) ?hr ?hp (fun _ hk => hk) trivial (Below.refl _ _) (Nat.le_refl _) (by simp) ?_; (case hd => rfl); (case hg => rfl); (case hr => first | (go_simp; done) | (go_simp; rfl)); (case hp => exact (Reps.c3 (show Kd.M k33 _ _ _ (⟨2, (⟨#[118]⟩ : ByteArray), 401⟩ : S33) [.int .u8 2, .string (⟨#[118]⟩ : ByteArray), .int .i64 401] from (zcm _ _ _ (⟨2, (⟨#[118]⟩ : ByteArray), 401⟩ : S33) )) (Reps.none _ _))); intro v297 w139 ho140 hb hg_ hnew_; clear hg_ hnew_; (first | rw [← Ny296.out] at ho140 | (simp only [Int.reduceToNat] at ho140; rw [← Ny296.out] at ho140)); have n0_ := zae.mk (Kd.za9 (by (with_reducible repeat (first | apply Kd.zah | apply Kd.zai | apply Kd.zak)); exact HO_18.out) (Kd.zbo ho140) hb); have n1_ := zae.mk (Kd.za9 (by (with_reducible repeat (first | apply Kd.zah | apply Kd.zai | apply Kd.zak)); exact HO269.out) (Kd.zbo ho140) hb); have n2_ := zae.mk (Kd.zay (by (with_reducible repeat (first | apply Kd.zah | apply Kd.zai | apply Kd.zak)); exact HO274.out) hb); have n3_ := zae.mk (Kd.zay (by (with_reducible repeat (first | apply Kd.zah | apply Kd.zai | apply Kd.zak)); exact HO279.out) hb); have n4_ := zae.mk (Kd.za9 (by (with_reducible repeat (first | apply Kd.zah | apply Kd.zai | apply Kd.zak)); exact HO282.out) (Kd.zbo ho140) hb); have n5_ := zae.mk (Kd.zay (by (with_reducible repeat (first | apply Kd.zah | apply Kd.zai | apply Kd.zak)); exact HO287.out) hb); have n6_ := zae.mk (Kd.za9 (by (with_reducible repeat (first | apply Kd.zah | apply Kd.zai | apply Kd.zak)); exact HO290.out) (Kd.zbo ho140) hb); have n7_ := zae.mk (Kd.zay (by (with_reducible repeat (first | apply Kd.zah | apply Kd.zai | apply Kd.zak)); exact HO295.out) hb); have n8_ := zae.mk (Kd.zbd (Kd.R_newB (Kd.zbp (Kd.zbp (Kd.zbp (Kd.zbp ho140 (Kd.R_lt (by (with_reducible repeat (first | apply Kd.zah | apply Kd.zai | apply Kd.zak)); exact HO_18.out))) (Kd.R_lt (by (with_reducible repeat (first | apply Kd.zah | apply Kd.zai | apply Kd.zak)); exact HO269.out))) (Kd.R_lt (by (with_reducible repeat (first | apply Kd.zah | apply Kd.zai | apply Kd.zak)); exact HO282.out))) (Kd.R_lt (by (with_reducible repeat (first | apply Kd.zah | apply Kd.zai | apply Kd.zak)); exact HO290.out))) (g := gb240) (o := .cells #[.int .u8 2, .string (⟨#[118]⟩ : ByteArray), .int .i64 0] 33 (0, 0)) (by (with_reducible repeat (first | refine zaq ?_ _ | refine zav ?_ | refine zan ?_ _)); exact BK240.out)) (zaw (by repeat (first | (with_reducible first | exact HB.out | apply zac | apply zaa | apply zad | refine zam ?_ GE240.out) | exact HB.out)))); have n9_ := zae.mk (za7 (g := gb240) (o := .cells #[.int .u8 2, .string (⟨#[118]⟩ : ByteArray), .int .i64 0] 33 (0, 0)) (by (with_reducible repeat (first | refine zaq ?_ _ | refine zav ?_ | refine zan ?_ _)); exact BK240.out) hb); have n10_ := zae.mk (zaj (by repeat (first | (with_reducible first | exact HB.out | apply zac | apply zaa | apply zad | refine zam ?_ GE240.out) | exact HB.out)) hb); clear HO_18; clear HO269; clear HO274; clear HO279; clear HO282; clear HO287; clear HO290; clear HO295; clear BK240; clear HB; have HO_18 := n0_; have HO269 := n1_; have HO274 := n2_; have HO279 := n3_; have HO282 := n4_; have HO287 := n5_; have HO290 := n6_; have HO295 := n7_; have HO298 := n8_; have BK240 := n9_; have HB := n10_; clear n0_ n1_ n2_ n3_ n4_ n5_ n6_ n7_ n8_ n9_ n10_; clear hb ho140; obtain ⟨Ao141, co141, eo141⟩ := Kd.zbc HO298.out; subst eo141) | ((with_reducible refine zar (f := 10) rfl ?_); refine za6 (some 227) rfl rfl Tryz.func10 (by kernel_rfl) rfl #[.slice Ao141 y296.length co141, .int .i64 0] rfl (by (try simp only [List.map_toArray, List.map_cons, List.map_nil]); first | done | rfl | (simp only [List.length_drop, List.length_take]; rfl)) ?_; (with_reducible refine (zax.calls k5 _ _ y296 0 t299 t300 t301 _ ?side1 ?side2 ?side3 A105.out).mono ?_); (case side1 => repeat (first | exact (Kd.za2 HO298.out).2.2 | (with_reducible refine Kd.zbt ?_ _) | (with_reducible refine Kd.zbu ?_ _) | (with_reducible refine Kd.zb2 ?_))); (case side2 => exact (Kd.za2 HO298.out).2.1); (case side3 => exact Tabs.below hT (by repeat (first | (with_reducible first | exact HB.out | apply zac | apply zaa | apply zad | refine zam ?_ GE240.out) | exact HB.out))); rintro e w142 ⟨v302, rfl, ho0, hb⟩; refine ⟨_, rfl, ?_⟩; have n0_ := zae.mk (Kd.zay (by (with_reducible repeat (first | apply Kd.zah | apply Kd.zai | apply Kd.zak)); exact HO_18.out) hb); have n1_ := zae.mk (Kd.zay (by (with_reducible repeat (first | apply Kd.zah | apply Kd.zai | apply Kd.zak)); exact HO269.out) hb); have n2_ := zae.mk (Kd.za9 (by (with_reducible repeat (first | apply Kd.zah | apply Kd.zai | apply Kd.zak)); exact HO274.out) (Kd.zbo ho0) hb); have n3_ := zae.mk (Kd.za9 (by (with_reducible repeat (first | apply Kd.zah | apply Kd.zai | apply Kd.zak)); exact HO279.out) (Kd.zbo ho0) hb); have n4_ := zae.mk (Kd.zay (by (with_reducible repeat (first | apply Kd.zah | apply Kd.zai | apply Kd.zak)); exact HO282.out) hb); have n5_ := zae.mk (Kd.za9 (by (with_reducible repeat (first | apply Kd.zah | apply Kd.zai | apply Kd.zak)); exact HO287.out) (Kd.zbo ho0) hb); have n6_ := zae.mk (Kd.zay (by (with_reducible repeat (first | apply Kd.zah | apply Kd.zai | apply Kd.zak)); exact HO290.out) hb); have n7_ := zae.mk (Kd.za9 (by (with_reducible repeat (first | apply Kd.zah | apply Kd.zai | apply Kd.zak)); exact HO295.out) (Kd.zbo ho0) hb); have n8_ := zae.mk (Kd.zay (by (with_reducible repeat (first | apply Kd.zah | apply Kd.zai | apply Kd.zak)); exact HO298.out) hb); have n9_ := zae.mk (Kd.zbd (Kd.zbp (Kd.zbp (Kd.zbp (Kd.zbp ho0 (Kd.R_lt (by (with_reducible repeat (first | apply Kd.zah | apply Kd.zai | apply Kd.zak)); exact HO274.out))) (Kd.R_lt (by (with_reducible repeat (first | apply Kd.zah | apply Kd.zai | apply Kd.zak)); exact HO279.out))) (Kd.R_lt (by (with_reducible repeat (first | apply Kd.zah | apply Kd.zai | apply Kd.zak)); exact HO287.out))) (Kd.R_lt (by (with_reducible repeat (first | apply Kd.zah | apply Kd.zai | apply Kd.zak)); exact HO295.out))) (zaw (by repeat (first | (with_reducible first | exact HB.out | apply zac | apply zaa | apply zad | refine zam ?_ GE240.out) | exact HB.out)))); have n10_ := zae.mk (za7 (g := gb240) (o := .cells #[.int .u8 2, .string (⟨#[118]⟩ : ByteArray), .int .i64 0] 33 (0, 0)) (by (with_reducible repeat (first | refine zaq ?_ _ | refine zav ?_ | refine zan ?_ _)); exact BK240.out) hb); have n11_ := zae.mk (zaj (by repeat (first | (with_reducible first | exact HB.out | apply zac | apply zaa | apply zad | refine zam ?_ GE240.out) | exact HB.out)) hb); clear HO_18; clear HO269; clear HO274; clear HO279; clear HO282; clear HO287; clear HO290; clear HO295; clear HO298; clear BK240; clear HB; have HO_18 := n0_; have HO269 := n1_; have HO274 := n2_; have HO279 := n3_; have HO282 := n4_; have HO287 := n5_; have HO290 := n6_; have HO295 := n7_; have HO298 := n8_; have HO303 := n9_; have BK240 := n10_; have HB := n11_; clear n0_ n1_ n2_ n3_ n4_ n5_ n6_ n7_ n8_ n9_ n10_ n11_; (try clear hb); (try clear hb2); (try clear hk); (try clear hi); (try clear ho0); have hcz143_0 : w142.cell? ⟨gb240, 0, none⟩ = some (.int .u8 2) := (zas BK240.out 0).trans rfl; have hcz143_1 : w142.cell? ⟨gb240, 1, none⟩ = some (.string (⟨#[118]⟩ : ByteArray)) := (zas BK240.out 1).trans rfl; have hcz143_2 : w142.cell? ⟨gb240, 2, none⟩ = some (.int .i64 0) := (zas BK240.out 2).trans rfl; have hfz143_0 := zao BK240.out 0; have hfz143_1 := zao BK240.out 1; have hfz143_2 := zao BK240.out 2) | ((with_reducible refine zbs (N := 233) rfl ?_); (try (refine zbf (by rfl) ?_; dsimp only)); refine Kd.R_lit k33 _ 33 ?hg (N := 233) ?hd (xs := ([(⟨2, (⟨#[118]⟩ : ByteArray), 0⟩ : S33)] : List (S33))) (inner := [.int .u8 2, .string (⟨#[118]⟩ : ByteArray), .int .i64 0]) (ok := fun _ => True) (okp := fun _ => True) ?hr ?hp (fun _ hk => hk) trivial (Below.refl _ _) (Nat.le_refl _) (by simp) ?_; (case hd => rfl); (case hg => rfl); (case hr => first | (go_simp; done) | (go_simp; rfl)); (case hp => exact (Reps.c3 (show Kd.M k33 _ _ _ (⟨2, (⟨#[118]⟩ : ByteArray), 0⟩ : S33) [.int .u8 2, .string (⟨#[118]⟩ : ByteArray), .int .i64 0] from (zcm _ _ _ (⟨2, (⟨#[118]⟩ : ByteArray), 0⟩ : S33) )) (Reps.none _ _))); intro v305 w144 ho145 hb hg_ hnew_; clear hg_ hnew_; (first | rw [← Ny304.out] at ho145 | (simp only [Int.reduceToNat] at ho145; rw [← Ny304.out] at ho145)); have n0_ := zae.mk (Kd.za9 (by (with_reducible repeat (first | apply Kd.zah | apply Kd.zai | apply Kd.zak)); exact HO_18.out) (Kd.zbo ho145) hb); have n1_ := zae.mk (Kd.za9 (by (with_reducible repeat (first | apply Kd.zah | apply Kd.zai | apply Kd.zak)); exact HO269.out) (Kd.zbo ho145) hb); have n2_ := zae.mk (Kd.zay (by (with_reducible repeat (first | apply Kd.zah | apply Kd.zai | apply Kd.zak)); exact HO274.out) hb); have n3_ := zae.mk (Kd.zay (by (with_reducible repeat (first | apply Kd.zah | apply Kd.zai | apply Kd.zak)); exact HO279.out) hb); have n4_ := zae.mk (Kd.za9 (by (with_reducible repeat (first | apply Kd.zah | apply Kd.zai | apply Kd.zak)); exact HO282.out) (Kd.zbo ho145) hb); have n5_ := zae.mk (Kd.zay (by (with_reducible repeat (first | apply Kd.zah | apply Kd.zai | apply Kd.zak)); exact HO287.out) hb); have n6_ := zae.mk (Kd.za9 (by (with_reducible repeat (first | apply Kd.zah | apply Kd.zai | apply Kd.zak)); exact HO290.out) (Kd.zbo ho145) hb); have n7_ := zae.mk (Kd.zay (by (with_reducible repeat (first | apply Kd.zah | apply Kd.zai | apply Kd.zak)); exact HO295.out) hb); have n8_ := zae.mk (Kd.za9 (by (with_reducible repeat (first | apply Kd.zah | apply Kd.zai | apply Kd.zak)); exact HO298.out) (Kd.zbo ho145) hb); have n9_ := zae.mk (Kd.zay (by (with_reducible repeat (first | apply Kd.zah | apply Kd.zai | apply Kd.zak)); exact HO303.out) hb); have n10_ := zae.mk (Kd.zbd (Kd.R_newB (Kd.zbp (Kd.zbp (Kd.zbp (Kd.zbp (Kd.zbp ho145 (Kd.R_lt (by (with_reducible repeat (first | apply Kd.zah | apply Kd.zai | apply Kd.zak)); exact HO_18.out))) (Kd.R_lt (by (with_reducible repeat (first | apply Kd.zah | apply Kd.zai | apply Kd.zak)); exact HO269.out))) (Kd.R_lt (by (with_reducible repeat (first | apply Kd.zah | apply Kd.zai | apply Kd.zak)); exact HO282.out))) (Kd.R_lt (by (with_reducible repeat (first | apply Kd.zah | apply Kd.zai | apply Kd.zak)); exact HO290.out))) (Kd.R_lt (by (with_reducible repeat (first | apply Kd.zah | apply Kd.zai | apply Kd.zak)); exact HO298.out))) (g := gb240) (o := .cells #[.int .u8 2, .string (⟨#[118]⟩ : ByteArray), .int .i64 0] 33 (0, 0)) (by (with_reducible repeat (first | refine zaq ?_ _ | refine zav ?_ | refine zan ?_ _)); exact BK240.out)) (zaw (by repeat (first | (with_reducible first | exact HB.out | apply zac | apply zaa | apply zad | refine zam ?_ GE240.out) | exact HB.out)))); have n11_ := zae.mk (za7 (g := gb240) (o := .cells #[.int .u8 2, .string (⟨#[118]⟩ : ByteArray), .int .i64 0] 33 (0, 0)) (by (with_reducible repeat (first | refine zaq ?_ _ | refine zav ?_ | refine zan ?_ _)); exact BK240.out) hb); have n12_ := zae.mk (zaj (by repeat (first | (with_reducible first | exact HB.out | apply zac | apply zaa | apply zad | refine zam ?_ GE240.out) | exact HB.out)) hb); clear HO_18; clear HO269; clear HO274; clear HO279; clear HO282; clear HO287; clear HO290; clear HO295; clear HO298; clear HO303; clear BK240; clear HB; have HO_18 := n0_; have HO269 := n1_; have HO274 := n2_; have HO279 := n3_; have HO282 := n4_; have HO287 := n5_; have HO290 := n6_; have HO295 := n7_; have HO298 := n8_; have HO303 := n9_; have HO306 := n10_; have BK240 := n11_; have HB := n12_; clear n0_ n1_ n2_ n3_ n4_ n5_ n6_ n7_ n8_ n9_ n10_ n11_ n12_; clear hb ho145; obtain ⟨Ao146, co146, eo146⟩ := Kd.zbc HO306.out; subst eo146) | ((with_reducible refine zar (f := 10) rfl ?_); refine za6 (some 234) rfl rfl Tryz.func10 (by kernel_rfl) rfl #[.slice Ao146 y304.length co146, .int .i64 2] rfl (by (try simp only [List.map_toArray, List.map_cons, List.map_nil]); first | done | rfl | (simp only [List.length_drop, List.length_take]; rfl)) ?_; (with_reducible refine (zax.calls k5 _ _ y304 2 t307 t308 t309 _ ?side1 ?side2 ?side3 A106.out).mono ?_); (case side1 => repeat (first | exact (Kd.za2 HO306.out).2.2 | (with_reducible refine Kd.zbt ?_ _) | (with_reducible refine Kd.zbu ?_ _) | (with_reducible refine Kd.zb2 ?_))); (case side2 => exact (Kd.za2 HO306.out).2.1); (case side3 => exact Tabs.below hT (by repeat (first | (with_reducible first | exact HB.out | apply zac | apply zaa | apply zad | refine zam ?_ GE240.out) | exact HB.out))); rintro e w147 ⟨v310, rfl, ho0, hb⟩; refine ⟨_, rfl, ?_⟩; have n0_ := zae.mk (Kd.zay (by (with_reducible repeat (first | apply Kd.zah | apply Kd.zai | apply Kd.zak)); exact HO_18.out) hb); have n1_ := zae.mk (Kd.zay (by (with_reducible repeat (first | apply Kd.zah | apply Kd.zai | apply Kd.zak)); exact HO269.out) hb); have n2_ := zae.mk (Kd.za9 (by (with_reducible repeat (first | apply Kd.zah | apply Kd.zai | apply Kd.zak)); exact HO274.out) (Kd.zbo ho0) hb); have n3_ := zae.mk (Kd.za9 (by (with_reducible repeat (first | apply Kd.zah | apply Kd.zai | apply Kd.zak)); exact HO279.out) (Kd.zbo ho0) hb); have n4_ := zae.mk (Kd.zay (by (with_reducible repeat (first | apply Kd.zah | apply Kd.zai | apply Kd.zak)); exact HO282.out) hb); have n5_ := zae.mk (Kd.za9 (by (with_reducible repeat (first | apply Kd.zah | apply Kd.zai | apply Kd.zak)); exact HO287.out) (Kd.zbo ho0) hb); have n6_ := zae.mk (Kd.zay (by (with_reducible repeat (first | apply Kd.zah | apply Kd.zai | apply Kd.zak)); exact HO290.out) hb); have n7_ := zae.mk (Kd.za9 (by (with_reducible repeat (first | apply Kd.zah | apply Kd.zai | apply Kd.zak)); exact HO295.out) (Kd.zbo ho0) hb); have n8_ := zae.mk (Kd.zay (by (with_reducible repeat (first | apply Kd.zah | apply Kd.zai | apply Kd.zak)); exact HO298.out) hb); have n9_ := zae.mk (Kd.za9 (by (with_reducible repeat (first | apply Kd.zah | apply Kd.zai | apply Kd.zak)); exact HO303.out) (Kd.zbo ho0) hb); have n10_ := zae.mk (Kd.zay (by (with_reducible repeat (first | apply Kd.zah | apply Kd.zai | apply Kd.zak)); exact HO306.out) hb); have n11_ := zae.mk (Kd.zbd (Kd.zbp (Kd.zbp (Kd.zbp (Kd.zbp (Kd.zbp ho0 (Kd.R_lt (by (with_reducible repeat (first | apply Kd.zah | apply Kd.zai | apply Kd.zak)); exact HO274.out))) (Kd.R_lt (by (with_reducible repeat (first | apply Kd.zah | apply Kd.zai | apply Kd.zak)); exact HO279.out))) (Kd.R_lt (by (with_reducible repeat (first | apply Kd.zah | apply Kd.zai | apply Kd.zak)); exact HO287.out))) (Kd.R_lt (by (with_reducible repeat (first | apply Kd.zah | apply Kd.zai | apply Kd.zak)); exact HO295.out))) (Kd.R_lt (by (with_reducible repeat (first | apply Kd.zah | apply Kd.zai | apply Kd.zak)); exact HO303.out))) (zaw (by repeat (first | (with_reducible first | exact HB.out | apply zac | apply zaa | apply zad | refine zam ?_ GE240.out) | exact HB.out)))); have n12_ := zae.mk (za7 (g := gb240) (o := .cells #[.int .u8 2, .string (⟨#[118]⟩ : ByteArray), .int .i64 0] 33 (0, 0)) (by (with_reducible repeat (first | refine zaq ?_ _ | refine zav ?_ | refine zan ?_ _)); exact BK240.out) hb); have n13_ := zae.mk (zaj (by repeat (first | (with_reducible first | exact HB.out | apply zac | apply zaa | apply zad | refine zam ?_ GE240.out) | exact HB.out)) hb); clear HO_18; clear HO269; clear HO274; clear HO279; clear HO282; clear HO287; clear HO290; clear HO295; clear HO298; clear HO303; clear HO306; clear BK240; clear HB; have HO_18 := n0_; have HO269 := n1_; have HO274 := n2_; have HO279 := n3_; have HO282 := n4_; have HO287 := n5_; have HO290 := n6_; have HO295 := n7_; have HO298 := n8_; have HO303 := n9_; have HO306 := n10_; have HO311 := n11_; have BK240 := n12_; have HB := n13_; clear n0_ n1_ n2_ n3_ n4_ n5_ n6_ n7_ n8_ n9_ n10_ n11_ n12_ n13_; (try clear hb); (try clear hb2); (try clear hk); (try clear hi); (try clear ho0); have hcz148_0 : w147.cell? ⟨gb240, 0, none⟩ = some (.int .u8 2) := (zas BK240.out 0).trans rfl; have hcz148_1 : w147.cell? ⟨gb240, 1, none⟩ = some (.string (⟨#[118]⟩ : ByteArray)) := (zas BK240.out 1).trans rfl; have hcz148_2 : w147.cell? ⟨gb240, 2, none⟩ = some (.int .i64 0) := (zas BK240.out 2).trans rfl; have hfz148_0 := zao BK240.out 0; have hfz148_1 := zao BK240.out 1; have hfz148_2 := zao BK240.out 2) | ((with_reducible refine zbs (N := 240) rfl ?_); (try (refine zbf (by rfl) ?_; dsimp only)); refine Kd.R_lit k33 _ 33 ?hg (N := 240) ?hd (xs := ([(⟨2, (⟨#[118]⟩ : ByteArray), 0⟩ : S33)] : List (S33))) (inner := [.int .u8 2, .string (⟨#[118]⟩ : ByteArray), .int .i64 0]) (ok := fun _ => True) (okp := fun _ => True) ?hr ?hp (fun _ hk => hk) trivial (Below.refl _ _) (Nat.le_refl _) (by simp) ?_; (case hd => rfl); (case hg => rfl); (case hr => first | (go_simp; done) | (go_simp; rfl)); (case hp => exact (Reps.c3 (show Kd.M k33 _ _ _ (⟨2, (⟨#[118]⟩ : ByteArray), 0⟩ : S33) [.int .u8 2, .string (⟨#[118]⟩ : ByteArray), .int .i64 0] from (zcm _ _ _ (⟨2, (⟨#[118]⟩ : ByteArray), 0⟩ : S33) )) (Reps.none _ _))); intro v313 w149 ho150 hb hg_ hnew_; clear hg_ hnew_; (first | rw [← Ny312.out] at ho150 | (simp only [Int.reduceToNat] at ho150; rw [← Ny312.out] at ho150)); have n0_ := zae.mk (Kd.za9 (by (with_reducible repeat (first | apply Kd.zah | apply Kd.zai | apply Kd.zak)); exact HO_18.out) (Kd.zbo ho150) hb); have n1_ := zae.mk (Kd.za9 (by (with_reducible repeat (first | apply Kd.zah | apply Kd.zai | apply Kd.zak)); exact HO269.out) (Kd.zbo ho150) hb); have n2_ := zae.mk (Kd.zay (by (with_reducible repeat (first | apply Kd.zah | apply Kd.zai | apply Kd.zak)); exact HO274.out) hb); have n3_ := zae.mk (Kd.zay (by (with_reducible repeat (first | apply Kd.zah | apply Kd.zai | apply Kd.zak)); exact HO279.out) hb); have n4_ := zae.mk (Kd.za9 (by (with_reducible repeat (first | apply Kd.zah | apply Kd.zai | apply Kd.zak)); exact HO282.out) (Kd.zbo ho150) hb); have n5_ := zae.mk (Kd.zay (by (with_reducible repeat (first | apply Kd.zah | apply Kd.zai | apply Kd.zak)); exact HO287.out) hb); have n6_ := zae.mk (Kd.za9 (by (with_reducible repeat (first | apply Kd.zah | apply Kd.zai | apply Kd.zak)); exact HO290.out) (Kd.zbo ho150) hb); have n7_ := zae.mk (Kd.zay (by (with_reducible repeat (first | apply Kd.zah | apply Kd.zai | apply Kd.zak)); exact HO295.out) hb); have n8_ := zae.mk (Kd.za9 (by (with_reducible repeat (first | apply Kd.zah | apply Kd.zai | apply Kd.zak)); exact HO298.out) (Kd.zbo ho150) hb); have n9_ := zae.mk (Kd.zay (by (with_reducible repeat (first | apply Kd.zah | apply Kd.zai | apply Kd.zak)); exact HO303.out) hb); have n10_ := zae.mk (Kd.za9 (by (with_reducible repeat (first | apply Kd.zah | apply Kd.zai | apply Kd.zak)); exact HO306.out) (Kd.zbo ho150) hb); have n11_ := zae.mk (Kd.zay (by (with_reducible repeat (first | apply Kd.zah | apply Kd.zai | apply Kd.zak)); exact HO311.out) hb); have n12_ := zae.mk (Kd.zbd (Kd.R_newB (Kd.zbp (Kd.zbp (Kd.zbp (Kd.zbp (Kd.zbp (Kd.zbp ho150 (Kd.R_lt (by (with_reducible repeat (first | apply Kd.zah | apply Kd.zai | apply Kd.zak)); exact HO_18.out))) (Kd.R_lt (by (with_reducible repeat (first | apply Kd.zah | apply Kd.zai | apply Kd.zak)); exact HO269.out))) (Kd.R_lt (by (with_reducible repeat (first | apply Kd.zah | apply Kd.zai | apply Kd.zak)); exact HO282.out))) (Kd.R_lt (by (with_reducible repeat (first | apply Kd.zah | apply Kd.zai | apply Kd.zak)); exact HO290.out))) (Kd.R_lt (by (with_reducible repeat (first | apply Kd.zah | apply Kd.zai | apply Kd.zak)); exact HO298.out))) (Kd.R_lt (by (with_reducible repeat (first | apply Kd.zah | apply Kd.zai | apply Kd.zak)); exact HO306.out))) (g := gb240) (o := .cells #[.int .u8 2, .string (⟨#[118]⟩ : ByteArray), .int .i64 0] 33 (0, 0)) (by (with_reducible repeat (first | refine zaq ?_ _ | refine zav ?_ | refine zan ?_ _)); exact BK240.out)) (zaw (by repeat (first | (with_reducible first | exact HB.out | apply zac | apply zaa | apply zad | refine zam ?_ GE240.out) | exact HB.out)))); have n13_ := zae.mk (za7 (g := gb240) (o := .cells #[.int .u8 2, .string (⟨#[118]⟩ : ByteArray), .int .i64 0] 33 (0, 0)) (by (with_reducible repeat (first | refine zaq ?_ _ | refine zav ?_ | refine zan ?_ _)); exact BK240.out) hb); have n14_ := zae.mk (zaj (by repeat (first | (with_reducible first | exact HB.out | apply zac | apply zaa | apply zad | refine zam ?_ GE240.out) | exact HB.out)) hb); clear HO_18; clear HO269; clear HO274; clear HO279; clear HO282; clear HO287; clear HO290; clear HO295; clear HO298; clear HO303; clear HO306; clear HO311; clear BK240; clear HB; have HO_18 := n0_; have HO269 := n1_; have HO274 := n2_; have HO279 := n3_; have HO282 := n4_; have HO287 := n5_; have HO290 := n6_; have HO295 := n7_; have HO298 := n8_; have HO303 := n9_; have HO306 := n10_; have HO311 := n11_; have HO314 := n12_; have BK240 := n13_; have HB := n14_; clear n0_ n1_ n2_ n3_ n4_ n5_ n6_ n7_ n8_ n9_ n10_ n11_ n12_ n13_ n14_; clear hb ho150; obtain ⟨Ao151, co151, eo151⟩ := Kd.zbc HO314.out; subst eo151) | ((with_reducible refine zar (f := 10) rfl ?_); refine za6 (some 241) rfl rfl Tryz.func10 (by kernel_rfl) rfl #[.slice Ao151 y312.length co151, .int .i64 1] rfl (by (try simp only [List.map_toArray, List.map_cons, List.map_nil]); first | done | rfl | (simp only [List.length_drop, List.length_take]; rfl)) ?_; (with_reducible refine (zax.calls k5 _ _ y312 1 t315 t316 t317 _ ?side1 ?side2 ?side3 A107.out).mono ?_); (case side1 => repeat (first | exact (Kd.za2 HO314.out).2.2 | (with_reducible refine Kd.zbt ?_ _) | (with_reducible refine Kd.zbu ?_ _) | (with_reducible refine Kd.zb2 ?_))); (case side2 => exact (Kd.za2 HO314.out).2.1); (case side3 => exact Tabs.below hT (by repeat (first | (with_reducible first | exact HB.out | apply zac | apply zaa | apply zad | refine zam ?_ GE240.out) | exact HB.out))); rintro e w152 ⟨v318, rfl, ho0, hb⟩; refine ⟨_, rfl, ?_⟩; have n0_ := zae.mk (Kd.zay (by (with_reducible repeat (first | apply Kd.zah | apply Kd.zai | apply Kd.zak)); exact HO_18.out) hb); have n1_ := zae.mk (Kd.zay (by (with_reducible repeat (first | apply Kd.zah | apply Kd.zai | apply Kd.zak)); exact HO269.out) hb); have n2_ := zae.mk (Kd.za9 (by (with_reducible repeat (first | apply Kd.zah | apply Kd.zai | apply Kd.zak)); exact HO274.out) (Kd.zbo ho0) hb); have n3_ := zae.mk (Kd.za9 (by (with_reducible repeat (first | apply Kd.zah | apply Kd.zai | apply Kd.zak)); exact HO279.out) (Kd.zbo ho0) hb); have n4_ := zae.mk (Kd.zay (by (with_reducible repeat (first | apply Kd.zah | apply Kd.zai | apply Kd.zak)); exact HO282.out) hb); have n5_ := zae.mk (Kd.za9 (by (with_reducible repeat (first | apply Kd.zah | apply Kd.zai | apply Kd.zak)); exact HO287.out) (Kd.zbo ho0) hb); have n6_ := zae.mk (Kd.zay (by (with_reducible repeat (first | apply Kd.zah | apply Kd.zai | apply Kd.zak)); exact HO290.out) hb); have n7_ := zae.mk (Kd.za9 (by (with_reducible repeat (first | apply Kd.zah | apply Kd.zai | apply Kd.zak)); exact HO295.out) (Kd.zbo ho0) hb); have n8_ := zae.mk (Kd.zay (by (with_reducible repeat (first | apply Kd.zah | apply Kd.zai | apply Kd.zak)); exact HO298.out) hb); have n9_ := zae.mk (Kd.za9 (by (with_reducible repeat (first | apply Kd.zah | apply Kd.zai | apply Kd.zak)); exact HO303.out) (Kd.zbo ho0) hb); have n10_ := zae.mk (Kd.zay (by (with_reducible repeat (first | apply Kd.zah | apply Kd.zai | apply Kd.zak)); exact HO306.out) hb); have n11_ := zae.mk (Kd.za9 (by (with_reducible repeat (first | apply Kd.zah | apply Kd.zai | apply Kd.zak)); exact HO311.out) (Kd.zbo ho0) hb); have n12_ := zae.mk (Kd.zay (by (with_reducible repeat (first | apply Kd.zah | apply Kd.zai | apply Kd.zak)); exact HO314.out) hb); have n13_ := zae.mk (Kd.zbd (Kd.zbp (Kd.zbp (Kd.zbp (Kd.zbp (Kd.zbp (Kd.zbp ho0 (Kd.R_lt (by (with_reducible repeat (first | apply Kd.zah | apply Kd.zai | apply Kd.zak)); exact HO274.out))) (Kd.R_lt (by (with_reducible repeat (first | apply Kd.zah | apply Kd.zai | apply Kd.zak)); exact HO279.out))) (Kd.R_lt (by (with_reducible repeat (first | apply Kd.zah | apply Kd.zai | apply Kd.zak)); exact HO287.out))) (Kd.R_lt (by (with_reducible repeat (first | apply Kd.zah | apply Kd.zai | apply Kd.zak)); exact HO295.out))) (Kd.R_lt (by (with_reducible repeat (first | apply Kd.zah | apply Kd.zai | apply Kd.zak)); exact HO303.out))) (Kd.R_lt (by (with_reducible repeat (first | apply Kd.zah | apply Kd.zai | apply Kd.zak)); exact HO311.out))) (zaw (by repeat (first | (with_reducible first | exact HB.out | apply zac | apply zaa | apply zad | refine zam ?_ GE240.out) | exact HB.out)))); have n14_ := zae.mk (za7 (g := gb240) (o := .cells #[.int .u8 2, .string (⟨#[118]⟩ : ByteArray), .int .i64 0] 33 (0, 0)) (by (with_reducible repeat (first | refine zaq ?_ _ | refine zav ?_ | refine zan ?_ _)); exact BK240.out) hb); have n15_ := zae.mk (zaj (by repeat (first | (with_reducible first | exact HB.out | apply zac | apply zaa | apply zad | refine zam ?_ GE240.out) | exact HB.out)) hb); clear HO_18; clear HO269; clear HO274; clear HO279; clear HO282; clear HO287; clear HO290; clear HO295; clear HO298; clear HO303; clear HO306; clear HO311; clear HO314; clear BK240; clear HB; have HO_18 := n0_; have HO269 := n1_; have HO274 := n2_; have HO279 := n3_; have HO282 := n4_; have HO287 := n5_; have HO290 := n6_; have HO295 := n7_; have HO298 := n8_; have HO303 := n9_; have HO306 := n10_; have HO311 := n11_; have HO314 := n12_; have HO319 := n13_; have BK240 := n14_; have HB := n15_; clear n0_ n1_ n2_ n3_ n4_ n5_ n6_ n7_ n8_ n9_ n10_ n11_ n12_ n13_ n14_ n15_; (try clear hb); (try clear hb2); (try clear hk); (try clear hi); (try clear ho0)) | ((with_reducible refine zar (f := 11) rfl ?_); refine za6 (some 246) rfl rfl Tryz.func11 (by kernel_rfl) rfl #[.slice none 0 0] rfl (by (try simp only [List.map_toArray, List.map_cons, List.map_nil]); first | done | rfl | (simp only [List.length_drop, List.length_take]; rfl)) ?_; (refine (zbh.calls _ _ ([] : List (S43)) t320 t321 _ ?side1 ?side2 ?side3 A108.out).mono ?_); (case side1 => exact Kd.C_nil _ _); (case side2 => exact Nat.le_refl _); (case side3 => exact Tabs.below hT (by repeat (first | (with_reducible first | exact HB.out | apply zac | apply zaa | apply zad | refine zam ?_ GE240.out) | exact HB.out))); rintro e w153 ⟨rfl, hb⟩; refine ⟨_, rfl, ?_⟩; have n0_ := zae.mk (Kd.zay (by (with_reducible repeat (first | apply Kd.zah | apply Kd.zai | apply Kd.zak)); exact HO_18.out) hb); have n1_ := zae.mk (Kd.zay (by (with_reducible repeat (first | apply Kd.zah | apply Kd.zai | apply Kd.zak)); exact HO269.out) hb); have n2_ := zae.mk (Kd.zay (by (with_reducible repeat (first | apply Kd.zah | apply Kd.zai | apply Kd.zak)); exact HO274.out) hb); have n3_ := zae.mk (Kd.zay (by (with_reducible repeat (first | apply Kd.zah | apply Kd.zai | apply Kd.zak)); exact HO279.out) hb); have n4_ := zae.mk (Kd.zay (by (with_reducible repeat (first | apply Kd.zah | apply Kd.zai | apply Kd.zak)); exact HO282.out) hb); have n5_ := zae.mk (Kd.zay (by (with_reducible repeat (first | apply Kd.zah | apply Kd.zai | apply Kd.zak)); exact HO287.out) hb); have n6_ := zae.mk (Kd.zay (by (with_reducible repeat (first | apply Kd.zah | apply Kd.zai | apply Kd.zak)); exact HO290.out) hb); have n7_ := zae.mk (Kd.zay (by (with_reducible repeat (first | apply Kd.zah | apply Kd.zai | apply Kd.zak)); exact HO295.out) hb); have n8_ := zae.mk (Kd.zay (by (with_reducible repeat (first | apply Kd.zah | apply Kd.zai | apply Kd.zak)); exact HO298.out) hb); have n9_ := zae.mk (Kd.zay (by (with_reducible repeat (first | apply Kd.zah | apply Kd.zai | apply Kd.zak)); exact HO303.out) hb); have n10_ := zae.mk (Kd.zay (by (with_reducible repeat (first | apply Kd.zah | apply Kd.zai | apply Kd.zak)); exact HO306.out) hb); have n11_ := zae.mk (Kd.zay (by (with_reducible repeat (first | apply Kd.zah | apply Kd.zai | apply Kd.zak)); exact HO311.out) hb); have n12_ := zae.mk (Kd.zay (by (with_reducible repeat (first | apply Kd.zah | apply Kd.zai | apply Kd.zak)); exact HO314.out) hb); have n13_ := zae.mk (Kd.zay (by (with_reducible repeat (first | apply Kd.zah | apply Kd.zai | apply Kd.zak)); exact HO319.out) hb); have n14_ := zae.mk (za7 (g := gb240) (o := .cells #[.int .u8 2, .string (⟨#[118]⟩ : ByteArray), .int .i64 0] 33 (0, 0)) (by (with_reducible repeat (first | refine zaq ?_ _ | refine zav ?_ | refine zan ?_ _)); exact BK240.out) hb); have n15_ := zae.mk (zaj (by repeat (first | (with_reducible first | exact HB.out | apply zac | apply zaa | apply zad | refine zam ?_ GE240.out) | exact HB.out)) hb); clear HO_18; clear HO269; clear HO274; clear HO279; clear HO282; clear HO287; clear HO290; clear HO295; clear HO298; clear HO303; clear HO306; clear HO311; clear HO314; clear HO319; clear BK240; clear HB; have HO_18 := n0_; have HO269 := n1_; have HO274 := n2_; have HO279 := n3_; have HO282 := n4_; have HO287 := n5_; have HO290 := n6_; have HO295 := n7_; have HO298 := n8_; have HO303 := n9_; have HO306 := n10_; have HO311 := n11_; have HO314 := n12_; have HO319 := n13_; have BK240 := n14_; have HB := n15_; clear n0_ n1_ n2_ n3_ n4_ n5_ n6_ n7_ n8_ n9_ n10_ n11_ n12_ n13_ n14_ n15_; (try clear hb); (try clear hb2); (try clear hk); (try clear hi); obtain ⟨Ao154, co154, eo154⟩ := Kd.zbc HO279.out; subst eo154) | (go_at_call 12; (with_reducible refine (za1.calls k5  t322 _ ?side1 A124.out).mono ?_); (case side1 => exact Tabs.below hT (by repeat (first | (with_reducible first | exact HB.out | apply zac | apply zaa | apply zad | refine zam ?_ GE240.out) | exact HB.out))); rintro e w155 ⟨rfl, hb⟩; have n0_ := zae.mk (Kd.zay (by (with_reducible repeat (first | apply Kd.zah | apply Kd.zai | apply Kd.zak)); exact HO_18.out) hb); have n1_ := zae.mk (Kd.zay (by (with_reducible repeat (first | apply Kd.zah | apply Kd.zai | apply Kd.zak)); exact HO269.out) hb); have n2_ := zae.mk (Kd.zay (by (with_reducible repeat (first | apply Kd.zah | apply Kd.zai | apply Kd.zak)); exact HO274.out) hb); have n3_ := zae.mk (Kd.zay (by (with_reducible repeat (first | apply Kd.zah | apply Kd.zai | apply Kd.zak)); exact HO279.out) hb); have n4_ := zae.mk (Kd.zay (by (with_reducible repeat (first | apply Kd.zah | apply Kd.zai | apply Kd.zak)); exact HO282.out) hb); have n5_ := zae.mk (Kd.zay (by (with_reducible repeat (first | apply Kd.zah | apply Kd.zai | apply Kd.zak)); exact HO287.out) hb); have n6_ := zae.mk (Kd.zay (by (with_reducible repeat (first | apply Kd.zah | apply Kd.zai | apply Kd.zak)); exact HO290.out) hb); have n7_ := zae.mk (Kd.zay (by (with_reducible repeat (first | apply Kd.zah | apply Kd.zai | apply Kd.zak)); exact HO295.out) hb); have n8_ := zae.mk (Kd.zay (by (with_reducible repeat (first | apply Kd.zah | apply Kd.zai | apply Kd.zak)); exact HO298.out) hb); have n9_ := zae.mk (Kd.zay (by (with_reducible repeat (first | apply Kd.zah | apply Kd.zai | apply Kd.zak)); exact HO303.out) hb); have n10_ := zae.mk (Kd.zay (by (with_reducible repeat (first | apply Kd.zah | apply Kd.zai | apply Kd.zak)); exact HO306.out) hb); have n11_ := zae.mk (Kd.zay (by (with_reducible repeat (first | apply Kd.zah | apply Kd.zai | apply Kd.zak)); exact HO311.out) hb); have n12_ := zae.mk (Kd.zay (by (with_reducible repeat (first | apply Kd.zah | apply Kd.zai | apply Kd.zak)); exact HO314.out) hb); have n13_ := zae.mk (Kd.zay (by (with_reducible repeat (first | apply Kd.zah | apply Kd.zai | apply Kd.zak)); exact HO319.out) hb); have n14_ := zae.mk (za7 (g := gb240) (o := .cells #[.int .u8 2, .string (⟨#[118]⟩ : ByteArray), .int .i64 0] 33 (0, 0)) (by (with_reducible repeat (first | refine zaq ?_ _ | refine zav ?_ | refine zan ?_ _)); exact BK240.out) hb); have n15_ := zae.mk (zaj (by repeat (first | (with_reducible first | exact HB.out | apply zac | apply zaa | apply zad | refine zam ?_ GE240.out) | exact HB.out)) hb); clear HO_18; clear HO269; clear HO274; clear HO279; clear HO282; clear HO287; clear HO290; clear HO295; clear HO298; clear HO303; clear HO306; clear HO311; clear HO314; clear HO319; clear BK240; clear HB; have HO_18 := n0_; have HO269 := n1_; have HO274 := n2_; have HO279 := n3_; have HO282 := n4_; have HO287 := n5_; have HO290 := n6_; have HO295 := n7_; have HO298 := n8_; have HO303 := n9_; have HO306 := n10_; have HO311 := n11_; have HO314 := n12_; have HO319 := n13_; have BK240 := n14_; have HB := n15_; clear n0_ n1_ n2_ n3_ n4_ n5_ n6_ n7_ n8_ n9_ n10_ n11_ n12_ n13_ n14_ n15_; (try clear hb); (try clear hb2); (try clear hk); (try clear hi)))
                                                go_ret
                                                exact ⟨by first | rfl | (simp [zat, zau] <;> rfl) | (simp [*, zat, zau] <;> rfl), by repeat (first | (with_reducible first | exact HB.out | apply zac | apply zaa | apply zad | refine zam ?_ GE240.out) | exact HB.out)⟩
                                               ·rw [if_neg c123] at H
                                                exact absurd H (by simp)
                                              ·rw [if_neg c122] at H
                                               exact absurd H (by simp)
                                             ·rw [if_neg c121] at H
                                              exact absurd H (by simp)
                                            ·rw [if_neg c120] at H
                                             exact absurd H (by simp)
                                           ·rw [if_neg c119] at H
                                            exact absurd H (by simp)
                                          ·rw [if_neg c118] at H
                                           exact absurd H (by simp)
                                         ·rw [if_neg c117] at H
                                          exact absurd H (by simp)
                                        ·rw [if_neg c116] at H
                                         exact absurd H (by simp)
                                       ·rw [if_neg c115] at H
                                        exact absurd H (by simp)
                                      ·rw [if_neg c114] at H
                                       exact absurd H (by simp)
                                     ·rw [if_neg c113] at H
                                      exact absurd H (by simp)
                                    ·rw [if_neg c112] at H
                                     exact absurd H (by simp)
                                   ·rw [if_neg c111] at H
                                    exact absurd H (by simp)
                                  ·rw [if_neg c110] at H
                                   exact absurd H (by simp)
                                 ·replace c109 := Bool.eq_false_iff.mpr c109
                                  subst c109
                                  have H1 : (none) = some r := by rw [if_neg (show ¬ (false = true) by decide)] at H; exact H
                                  clear H
                                  have H := H1
                                  clear H1
                                  exact absurd H (by simp)
                                ·rw [if_neg c102] at H
                                 exact absurd H (by simp)
                               ·rw [if_neg c99] at H
                                exact absurd H (by simp)
                           ·rw [if_neg c93] at H
                            exact absurd H (by simp)
              ·replace c28 := Bool.eq_false_iff.mpr c28
               subst c28
               have H1 : (none) = some r := by rw [if_neg (show ¬ (false = true) by decide)] at H; exact H
               clear H
               have H := H1
               clear H1
               exact absurd H (by simp)
             ·replace c26 := Bool.eq_false_iff.mpr c26
              subst c26
              have H1 : (none) = some r := by rw [if_neg (show ¬ (false = true) by decide)] at H; exact H
              clear H
              have H := H1
              clear H1
              exact absurd H (by simp)
            ·replace c24 := Bool.eq_false_iff.mpr c24
             subst c24
             have H1 : (none) = some r := by rw [if_neg (show ¬ (false = true) by decide)] at H; exact H
             clear H
             have H := H1
             clear H1
             exact absurd H (by simp)
           ·replace c22 := Bool.eq_false_iff.mpr c22
            subst c22
            have H1 : (none) = some r := by rw [if_neg (show ¬ (false = true) by decide)] at H; exact H
            clear H
            have H := H1
            clear H1
            exact absurd H (by simp)
          ·replace c20 := Bool.eq_false_iff.mpr c20
           subst c20
           have H1 : (none) = some r := by rw [if_neg (show ¬ (false = true) by decide)] at H; exact H
           clear H
           have H := H1
           clear H1
           exact absurd H (by simp)
         ·replace c18 := Bool.eq_false_iff.mpr c18
          subst c18
          have H1 : (none) = some r := by rw [if_neg (show ¬ (false = true) by decide)] at H; exact H
          clear H
          have H := H1
          clear H1
          exact absurd H (by simp)
        ·replace c16 := Bool.eq_false_iff.mpr c16
         subst c16
         have H1 : (none) = some r := by rw [if_neg (show ¬ (false = true) by decide)] at H; exact H
         clear H
         have H := H1
         clear H1
         exact absurd H (by simp)
       ·replace c14 := Bool.eq_false_iff.mpr c14
        subst c14
        have H1 : (none) = some r := by rw [if_neg (show ¬ (false = true) by decide)] at H; exact H
        clear H
        have H := H1
        clear H1
        exact absurd H (by simp)
      ·replace c12 := Bool.eq_false_iff.mpr c12
       subst c12
       have H1 : (none) = some r := by rw [if_neg (show ¬ (false = true) by decide)] at H; exact H
       clear H
       have H := H1
       clear H1
       exact absurd H (by simp)
     ·replace c10 := Bool.eq_false_iff.mpr c10
      subst c10
      have H1 : (none) = some r := by rw [if_neg (show ¬ (false = true) by decide)] at H; exact H
      clear H
      have H := H1
      clear H1
      exact absurd H (by simp)
    ·replace c8 := Bool.eq_false_iff.mpr c8
     subst c8
     have H1 : (none) = some r := by rw [if_neg (show ¬ (false = true) by decide)] at H; exact H
     clear H
     have H := H1
     clear H1
     exact absurd H (by simp)
   ·replace c6 := Bool.eq_false_iff.mpr c6
    subst c6
    have H1 : (none) = some r := by rw [if_neg (show ¬ (false = true) by decide)] at H; exact H
    clear H
    have H := H1
    clear H1
    exact absurd H (by simp)
  ·replace c4 := Bool.eq_false_iff.mpr c4
   subst c4
   have H1 : (none) = some r := by rw [if_neg (show ¬ (false = true) by decide)] at H; exact H
   clear H
   have H := H1
   clear H1
   exact absurd H (by simp)
 ·replace c2 := Bool.eq_false_iff.mpr c2
  subst c2
  have H1 : (none) = some r := by rw [if_neg (show ¬ (false = true) by decide)] at H; exact H
  clear H
  have H := H1
  clear H1
  exact absurd H (by simp)
def zaf.Pure : Prop := ∃ k, zaf.f k  = some true
theorem zaf.walk (P : zaf.Pure)  (w : World)  (hT : Tabs w) :
    Calls Tryz.prog 3 #[] w fun e w' => e = .returned (.bool true) ∧ Below w.heap.size w w' := by
  obtain ⟨k, h⟩ := P
  refine (zaf.calls k  true w hT h).mono ?_
  rintro e w' ⟨rfl, hd⟩
  exact ⟨rfl, hd⟩
end Go.Proofs.YtgmmngipnjmkfaaGreatDoor.Q
end
