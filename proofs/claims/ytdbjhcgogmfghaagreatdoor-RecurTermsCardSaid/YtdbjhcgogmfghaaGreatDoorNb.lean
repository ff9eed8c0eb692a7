/-
  Contracts of functions: part Nb (no statement by itself).
-/
import Derived.Test.YtdbjhcgogmfghaaGreatDoorMak
import Derived.Test.YtdbjhcgogmfghaaGreatDoorNa
set_option linter.unusedVariables false
set_option linter.unusedSimpArgs false
set_option linter.unnecessarySimpa false

/- Short names. -/
namespace Go.Proofs
open Go Go.Abs
theorem kvA {A : Prop} (t : A:=by first | exact kv | exact kQ | exact kQc | exact kIc | exact kFn0) : A:=t
theorem preX {A : Prop} (t : A:=by intro p hp;first | (simp only [List.mem_singleton] at hp;subst hp;exact lks) | (simp only [List.mem_cons,List.not_mem_nil,or_false] at hp;rcases hp with rfl | rfl <;> exact lks)) : A:=t
theorem siX {A : Prop} (t : A:=by first | exact True.intro | omega | (simp only [and_true,List.length_map,List.length_replicate,List.length_set,List.length_append,List.length_cons,List.length_nil,List.length_take,List.length_drop] at *;omega)) : A:=t
end Go.Proofs
