/-
  Contracts of both programs' CausesOf and IsBiased.
-/
import Derived.Test.YtbkpcfncdnmknaaCauB
namespace Go.Proofs.Ytbkpcfncdnmknaa.mem
open Go.ChangeShapes Go.WideShapes Go.ChangeAt Go.RowKit

def cofL (ts : List Ti) (us : List ByteArray) (x : Int) : List Int := if codC ts us x = 0 then cauL us x ts else []
def biaV (ts : List Ti) (us : List ByteArray) (x : Int) : Bool := decide (0 < (cofL ts us x).length)
theorem codC_1 {ts : List Ti} {us : List ByteArray} (x : Int) (h : okK ts us = false) : codC ts us x = 1 := by unfold codC; rw [h]; rfl
theorem codC_2 {ts : List Ti} {us : List ByteArray} {x : Int} (h : okK ts us = true) (h2 : inB x 1 1000000 = false) : codC ts us x = 2 := by unfold codC; rw [h, h2]; rfl
theorem codC_0 {ts : List Ti} {us : List ByteArray} {x : Int} (h : okK ts us = true) (h2 : inB x 1 1000000 = true) : codC ts us x = 0 := by unfold codC; rw [h, h2]; rfl
theorem cofL_1 {ts : List Ti} {us : List ByteArray} {x : Int} (h : codC ts us x ≠ 0) : cofL ts us x = [] := by unfold cofL; rw [if_neg h]
theorem cofL_0 {ts : List Ti} {us : List ByteArray} {x : Int} (h : codC ts us x = 0) : cofL ts us x = cauL us x ts := by unfold cofL; rw [if_pos h]
end Go.Proofs.Ytbkpcfncdnmknaa.mem
