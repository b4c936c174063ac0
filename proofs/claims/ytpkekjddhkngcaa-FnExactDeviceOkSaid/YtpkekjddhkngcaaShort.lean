import Derived.Test.YtpkekjddhkngcaaWWords
/- Shorter names of what the longest printed walks say most often; no condition. -/
namespace Go.Proofs.YtpkekjddhkngcaaW.PrintWords
@[reducible] def tf_ (a b : Nat) : Array Bool := (List.replicate a true ++ List.replicate b false).toArray
theorem sI_ {α : Type} (l : List α) (i : Nat) (a : α) : l.toArray.setIfInBounds i a = (l.set i a).toArray := List.setIfInBounds_toArray l i a
theorem s0_ {α : Type} (x a : α) (l : List α) : (x :: l).set 0 a = a :: l := rfl
theorem sS_ {α : Type} (x a : α) (l : List α) (n : Nat) : (x :: l).set (n + 1) a = x :: l.set n a := rfl
end Go.Proofs.YtpkekjddhkngcaaW.PrintWords
