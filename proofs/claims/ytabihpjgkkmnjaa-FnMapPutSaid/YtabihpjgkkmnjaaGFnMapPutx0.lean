/- The functions that the law reaches, as plain Lean functions, and that the machine comes to their answers: laid by a program of this session. Conditions: none. -/
import Derived.Test.YtabihpjgkkmnjaaProg
import Derived.Below
import Derived.Deep.Draws
import Derived.Deep.AppendLies
import Derived.Maps.AppendAt
import Derived.OwnWalk
import Derived.Laws.BytesArg
import Derived.Laws.MakeOwn
import Derived.Laws.OwnMore
import Derived.Deep.OwnRows
import Derived.Tactics
import Derived.Lib.ConvBytes
import Derived.Laws.Slices
import Derived.WalkKit
import Derived.KernelRfl
import Derived.RowKit3
import Derived.Deep.LoopGhost
import Derived.Deep.QuietTactic
import Derived.BigQuiet
import Derived.WideLaws
import Derived.Deep.DeepCutAuto
import Derived.Deep.CutBlock
import Derived.Deep.RegionHeld3
import Derived.Laws.Rows
import Derived.Lib.AppendStr
import Derived.ArgAppend
import Derived.Laws.IdiomCopy
import Derived.OrdersHeld
import Derived.Laws.BitsLemmas
import Derived.RowKit
import Derived.Shelf.Abstract
import Derived.Test.YtabihpjgkkmnjaaTPWWords
import Derived.Test.YtabihpjgkkmnjaaTPWLast
import Derived.Test.YtabihpjgkkmnjaaTPWTab
import Derived.Test.YtabihpjgkkmnjaaTPWFour
import Derived.Test.YtabihpjgkkmnjaaTPWQPut
import Derived.Test.YtabihpjgkkmnjaaTPWApart
import Derived.Test.YtabihpjgkkmnjaaTPWArr
import Derived.Test.YtabihpjgkkmnjaaTPWZeros
import Derived.Test.YtabihpjgkkmnjaaTPWFoot
import Derived.Test.YtabihpjgkkmnjaaTPWKept
import Derived.Test.YtabihpjgkkmnjaaTPWShare
import Derived.Test.YtabihpjgkkmnjaaTPWN
import Derived.Test.YtabihpjgkkmnjaaTPWFootNe
import Derived.Test.YtabihpjgkkmnjaaTPWAt
import Derived.Test.YtabihpjgkkmnjaaTPWEqStruct
import Derived.Test.YtabihpjgkkmnjaaTPWRepsOne
import Derived.Test.YtabihpjgkkmnjaaTPWInv
import Derived.Test.YtabihpjgkkmnjaaTPWInvWords
import Derived.Test.YtabihpjgkkmnjaaTPWGuard
import Derived.Test.YtabihpjgkkmnjaaTPWNEv
import Derived.Test.YtabihpjgkkmnjaaTPWMore
namespace Go.Proofs.Ytabihpjgkkmnjaa.GFnMapPut
open Go.RowKit Go.Proofs.YtabihpjgkkmnjaaW.PrintWords Go.Proofs.YtabihpjgkkmnjaaW.PrintLast Go.Proofs.YtabihpjgkkmnjaaW.PrintMore
attribute [local go_sem] max2_int min2_int max_two min_two max_three min_three max_four min_four   -- for this text's walks alone
set_option linter.unusedVariables false
set_option linter.unusedSimpArgs false

class IsT (r : Bool) : Prop where eq : r = true
instance isT : IsT true := ⟨rfl⟩


def errW : Option Int → Value
  | none => .nilIface
  | some c => .iface 0 (.int .i64 c)
theorem errW_none : errW none = .nilIface := rfl
theorem errW_some (c : Int) : errW (some c) = .iface 0 (.int .i64 c) := rfl

theorem info3 : (Try.prog.info? 3).map (fun i => (i.zero, i.size, i.bytes)) = some (some (.int .i64 0), 1, 8) := by kernel_rfl
theorem info5 : (Try.prog.info? 5).map (fun i => (i.zero, i.size, i.bytes)) = some (some (.int .u8 0), 1, 1) := by kernel_rfl
theorem info39 : (Try.prog.info? 39).map (fun i => (i.zero, i.size, i.bytes)) = some (some (.agg #[(.int .i64 0), (.int .i64 0)]), 2, 16) := by kernel_rfl
-- the values' own types
/-! #### struct type 39 -/
structure S39 where
  f0 : Int
  f1 : Int
def z39 : S39 := ⟨(0 : Int), (0 : Int)⟩
def k39 : Kd S39 := Kd.iso (Kd.pair (Kd.int .i64) (Kd.int .i64)) (fun x : S39 => (x.f0, x.f1))
theorem k39_open {w : World} {x : S39} {cs : List Value} (h : k39.K w x cs) : cs = [.int .i64 x.f0, .int .i64 x.f1] := by
  obtain ⟨_, _, rfl, rfl, rfl⟩ := h
  exact rfl
theorem k39_openM {w : World} {base : Nat} {ok : Nat → Prop} {x : S39} {cs : List Value} (h : k39.M w base ok x cs) : cs = [.int .i64 x.f0, .int .i64 x.f1] := by
  obtain ⟨_, _, rfl, rfl, rfl⟩ := h
  exact rfl
theorem k39_mk (w : World) (x : S39)  : k39.K w x [.int .i64 x.f0, .int .i64 x.f1] := ⟨[.int .i64 x.f0], [.int .i64 x.f1], rfl, rfl, rfl⟩
theorem k39_mkM (w : World) (base : Nat) (ok : Nat → Prop) (x : S39)  : k39.M w base ok x [.int .i64 x.f0, .int .i64 x.f1] := ⟨[.int .i64 x.f0], [.int .i64 x.f1], rfl, rfl, rfl⟩
def rd_T39 (xs : List S39) (i : Int) : S39 := xs.getD i.toNat z39
theorem at_T39 {w : World} {A : Option Addr} {n : Nat} {xs : List S39} (h : Kd.C k39 w A n xs) (i : Int) (h0 : 0 ≤ i) (h1 : i < n) : ∃ ad , A = some ad ∧ w.cell? (ad.add (i.toNat * 2)) = some (.int .i64 (rd_T39 xs i).f0) ∧ w.cell? ⟨(ad.add (i.toNat * 2)).block, (ad.add (i.toNat * 2)).off + 1, none⟩ = some (.int .i64 (rd_T39 xs i).f1) := by
  obtain ⟨ad, c, e, _, hK, hc0⟩ := Kd.C_get h z39 i h0 h1
  have hc : ∀ j u, c[j]? = some u → w.cell? (ad.add (i.toNat * 2 + j)) = some u := hc0
  obtain rfl := k39_open hK
  exact ⟨ad, e, hc 0 _ rfl, by rw [← add_field _ _ 1 (by omega)]; exact hc 1 _ rfl⟩

end Go.Proofs.Ytabihpjgkkmnjaa.GFnMapPut
