namespace Go.Proofs.YtgkamalgokebgaaDoor
def val : List Nat → Nat
  | [] => 0
  | x :: t => x + 4294967296 * val t

def Lim (l : List Nat) : Prop := ∀ x ∈ l, x < 4294967296

def limbsF : Nat → Nat → List Nat
  | 0, _ => []
  | f + 1, n => if n = 0 then [] else n % 4294967296 :: limbsF f (n / 4294967296)

def limbs (n : Nat) : List Nat := limbsF n n

theorem lim_nil : Lim [] := fun x hx => by cases hx

end Go.Proofs.YtgkamalgokebgaaDoor
/- Plain arithmetic of numbers with sign, and what the functions that ask a number hand back. No program in sight. -/
namespace Go.Proofs.YtgkamalgokebgaaDoor
end Go.Proofs.YtgkamalgokebgaaDoor
/- Plain arithmetic of the limb loops: sums, differences, products. No program in sight. -/
namespace Go.Proofs.YtgkamalgokebgaaDoor
end Go.Proofs.YtgkamalgokebgaaDoor
/- What Add, Sub, Mul, DivMod hand back, as plain functions. No program in sight. -/
namespace Go.Proofs.YtgkamalgokebgaaDoor
end Go.Proofs.YtgkamalgokebgaaDoor
/- Plain arithmetic of division: by one limb or a power of 2; one digit of a quotient. No program in sight. -/
namespace Go.Proofs.YtgkamalgokebgaaDoor
end Go.Proofs.YtgkamalgokebgaaDoor
/- Plain arithmetic of shifts. No program in sight. -/
namespace Go.Proofs.YtgkamalgokebgaaDoor
end Go.Proofs.YtgkamalgokebgaaDoor
/- Plain arithmetic of long division. No program in sight. -/
namespace Go.Proofs.YtgkamalgokebgaaDoor
end Go.Proofs.YtgkamalgokebgaaDoor
/- Plain arithmetic: the estimate of a digit by two limbs, and the adding back. No program in sight. -/
namespace Go.Proofs.YtgkamalgokebgaaDoor
end Go.Proofs.YtgkamalgokebgaaDoor
/- Plain arithmetic: the shift that sets the highest bit, and the shift back limb by limb. No program in sight. -/
namespace Go.Proofs.YtgkamalgokebgaaDoor
end Go.Proofs.YtgkamalgokebgaaDoor
/- What DivMod hands back, as plain functions: quotient rounded down, remainder with the divisor's sign. No program in sight. -/
namespace Go.Proofs.YtgkamalgokebgaaDoor
end Go.Proofs.YtgkamalgokebgaaDoor
