/- Short slices whose cells are known. -/
import Derived.Test.YthoeflkgbimipaaDoorBoxb
set_option linter.unusedVariables false
set_option linter.unusedSimpArgs false
namespace Go.Proofs.YthoeflkgbimipaaDoor
open Go.RowKit

theorem rdi1 {W : World} {g : Nat} {a : Int} (ha : W.cell? ⟨g, 0, none⟩ = some (.int .i64 a)) : RdI W (some ⟨g, 0, none⟩) [a] := fun _ =>
  ⟨g, 0, rfl, World.block_lt_of_cell? W _ ha, fun k hk => by match k, hk with | 0, _ => exact ha⟩
theorem rdi2 {W : World} {g : Nat} {a b : Int} (ha : W.cell? ⟨g, 0, none⟩ = some (.int .i64 a)) (hb : W.cell? ⟨g, 1, none⟩ = some (.int .i64 b)) : RdI W (some ⟨g, 0, none⟩) [a, b] := fun _ =>
  ⟨g, 0, rfl, World.block_lt_of_cell? W _ ha, fun k hk => by match k, hk with | 0, _ => exact ha | 1, _ => exact hb⟩
theorem rdi3 {W : World} {g : Nat} {a b c : Int} (ha : W.cell? ⟨g, 0, none⟩ = some (.int .i64 a)) (hb : W.cell? ⟨g, 1, none⟩ = some (.int .i64 b)) (hc : W.cell? ⟨g, 2, none⟩ = some (.int .i64 c)) : RdI W (some ⟨g, 0, none⟩) [a, b, c] := fun _ =>
  ⟨g, 0, rfl, World.block_lt_of_cell? W _ ha, fun k hk => by match k, hk with | 0, _ => exact ha | 1, _ => exact hb | 2, _ => exact hc⟩
theorem rds1 {W : World} {g : Nat} {s : Sp} (h0 : W.cell? ⟨g, 0, none⟩ = some (.int .i64 s.lo)) (h1 : W.cell? ⟨g, 1, none⟩ = some (.int .i64 s.hi)) : RdS W (some ⟨g, 0, none⟩) [s] := fun _ =>
  ⟨g, 0, rfl, World.block_lt_of_cell? W _ h0, fun k hk => by match k, hk with | 0, _ => exact ⟨h0, h1⟩⟩
theorem rds2 {W : World} {g : Nat} {s t : Sp} (h0 : W.cell? ⟨g, 0, none⟩ = some (.int .i64 s.lo)) (h1 : W.cell? ⟨g, 1, none⟩ = some (.int .i64 s.hi)) (h2 : W.cell? ⟨g, 2, none⟩ = some (.int .i64 t.lo)) (h3 : W.cell? ⟨g, 3, none⟩ = some (.int .i64 t.hi)) :
    RdS W (some ⟨g, 0, none⟩) [s, t] := fun _ =>
  ⟨g, 0, rfl, World.block_lt_of_cell? W _ h0, fun k hk => by match k, hk with | 0, _ => exact ⟨h0, h1⟩ | 1, _ => exact ⟨h2, h3⟩⟩
end Go.Proofs.YthoeflkgbimipaaDoor
