/- Closed facts of this seat's program that every law's row asks, proved once and cheaply: what the translation's first line says. No condition. -/
import Derived.Test.YtflonfcemlfbdaaDoorChecked
import Derived.ProofKit
import Derived.KernelRfl
import Derived.JoinedOf
namespace Go.Proofs.YtflonfcemlfbdaaDoor.Facts
open Go
set_option maxRecDepth 1000000
theorem ofl{s:String}{l:List Char}(h:s=String.ofList l):s.toList=l:=by rw[h,String.toList_ofList]
theorem strip (rest : List (List Char)) : stripLifts liftWords ("cut".toList :: rest) = ([], "cut".toList :: rest) := by kernel_rfl
theorem enters_of {P : Program} {rest : List (List Char)} (h : behindMainWord (wordsSigns P.initOrder.toList) = "cut".toList :: rest) (h1 : P.laysLater = false) (h2 : P.bearsReflect = false) (h3 : P.doorFits [] = true) : P.mayEnter = true := by
 unfold Program.mayEnter
 rw[h]
 simp only[strip,h1,h2,h3]
 kernel_rfl
theorem zim {P : Program} {rest : List (List Char)} (h : behindMainWord (wordsSigns P.initOrder.toList) = "cut".toList :: rest) : P.liftsFinal = false := by
 unfold Program.liftsFinal Program.headLifts
 rw[h]
 simp only[strip]
 kernel_rfl
theorem zjx {P : Program} {rest : List (List Char)} (h : behindMainWord (wordsSigns P.initOrder.toList) = "cut".toList :: rest) : P.make = some .cut := by
 unfold Program.make
 rw[h]
 kernel_rfl
theorem head : ∃ rest, behindMainWord (wordsSigns Tryd.prog.initOrder.toList) = "cut".toList :: rest := by
 rw[ofl (s:=Tryd.prog.initOrder) rfl]
 exact⟨_,rfl⟩
theorem enters:Tryd.prog.mayEnter=true:=by
 obtain⟨rest,h⟩:=head
 exact enters_of h (by kernel_rfl) (by kernel_rfl) (by kernel_rfl)
theorem lifts:Tryd.prog.liftsFinal=false:=by
 obtain⟨rest,h⟩:=head
 exact zim h
theorem made:Tryd.prog.make=some .cut:=by
 obtain⟨rest,h⟩:=head
 exact zjx h
theorem own:ownKnob Tryd.prog.godebug=none:=by kernel_rfl
theorem laidOut:laidOutB Tryd.prog=true:=by kernel_rfl
end Go.Proofs.YtflonfcemlfbdaaDoor.Facts
