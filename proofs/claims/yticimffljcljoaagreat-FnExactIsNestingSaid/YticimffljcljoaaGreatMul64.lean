/- math/bits.Mul64 by the shelf's contract, told over the abstract machine. No condition. -/
import Derived.Test.YticimffljcljoaaGreatAnF
import Derived.Test.YticimffljcljoaaGreatProg
import Derived.WalkKit
import Derived.ProofKit
import Derived.Shelf.Bits.Mul64
set_option linter.unusedVariables false
namespace Go.Proofs
open Go.Shelf
def Tryz.laysMul_ren : Go.Shelf.Ren := ⟨fun | 264 => 181 | n => n, fun | 53 => 219 | 46 => 225 | n => n, fun | n => n⟩
theorem Tryz.laysMul : Go.Proofs.Lays.n264 Tryz.prog Tryz.laysMul_ren := {
  mixed := (by kernel_rfl),
  f264 := Tryz.func181.trans (congrArg some (by kernel_rfl)),
  t46 := Tryz.underlying225,
  a46 := Tryz.isAgg225,
  z46 := Tryz.sizeOf225,
  v46 := Tryz.zeroValue225,
  t53 := Tryz.underlying219,
  a53 := Tryz.isAgg219,
  z53 := Tryz.sizeOf219,
  v53 := Tryz.zeroValue219 }
end Go.Proofs
namespace Go.Proofs.YticimffljcljoaaGreat.Mul64
open Go Go.RowKit Go.Proofs.YticimffljcljoaaGreatM
theorem mulU (x y:Int) (h0:0≤x) (h1:x < 18446744073709551616) (g0:0≤y) (g1:y < 18446744073709551616):OkF Tryz.prog 181 [.c (.d (.v (.int .u64 x))),.c (.d (.v (.int .u64 y)))] [] (.tup [.c (.d (.v (.int .u64 (x*y / 18446744073709551616)))),.c (.d (.v (.int .u64 (x*y%18446744073709551616))))]) []:=by
 obtain ⟨a,rfl⟩:=Int.eq_ofNat_of_zero_le h0
 obtain ⟨b,rfl⟩:=Int.eq_ofNat_of_zero_le g0
 refine ⟨⟨Tryz.f181,Tryz.func181,by kernel_rfl,by kernel_rfl⟩,fun w vals ρ0 F hv hrows=>?_⟩
 obtain rfl:vals=[.int .u64 a,.int .u64 b]:=by
  cases hv with
  | cons a1 a2=>
   cases a2 with
   | cons a3 a4=>
    cases a4
    cases a1 with
    | c a1=>
     cases a3 with
     | c a3=>rw [deep_v a1,deep_v a3]
 refine Calls.mono (Any.bits_Mul64 Tryz.laysMul a b (by omega) (by omega) w) (fun e' w' he=>?_)
 obtain ⟨rfl,rfl⟩:=he
 have e1:((a*b / 18446744073709551616:Nat):Int)=(a:Int)*b / 18446744073709551616:=by rw [Int.natCast_ediv,Int.natCast_mul]; rfl
 have e2:((a*b%18446744073709551616:Nat):Int)=(a:Int)*b%18446744073709551616:=by rw [Int.natCast_emod,Int.natCast_mul]; rfl
 rw [e1,e2]
 exact ⟨_,ρ0,F,rfl,Fr.refl _ _,.tup (.cons (.c (Deep.v _)) (.cons (.c (Deep.v _)) .nil)),⟨fun κ c hc=>(by cases hc),fun κ κ' k h=>absurd rfl h⟩,fun κ _ h=>absurd rfl h,fun κ k h=>absurd rfl h⟩
end Go.Proofs.YticimffljcljoaaGreat.Mul64
