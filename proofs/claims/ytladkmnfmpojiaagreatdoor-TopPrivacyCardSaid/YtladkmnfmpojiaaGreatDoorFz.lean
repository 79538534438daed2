/-
  What the row says of the whole program's types.
-/
import Derived.Test.YtladkmnfmpojiaaGreatDoorRows
import Derived.JoinedOf
import Derived.KernelRfl
namespace Go.Proofs.YtladkmnfmpojiaaGreatDoor
namespace Z
set_option maxRecDepth 100000
theorem nTypes : Tryz.prog.types.size = 1034 := by kernel_rfl
def mapR (P : Program) (t : TypeId) : Bool := match P.underlying t with
  | some (.map _ e) => decide (e < P.types.size)
  | _ => true
def keyR (P : Program) (t : TypeId) : Bool := match P.underlying t with
  | some (.map k _) => (match P.underlying k with
    | some (.array _ _) | some (.struct _) => false
    | _ => true)
  | _ => true
theorem lo0 : (List.range' 0 50).all (rowFine Tryz.prog) = true := by kernel_rfl
theorem lo1 : (List.range' 50 50).all (rowFine Tryz.prog) = true := by kernel_rfl
theorem lo2 : (List.range' 100 50).all (rowFine Tryz.prog) = true := by kernel_rfl
theorem lo3 : (List.range' 150 50).all (rowFine Tryz.prog) = true := by kernel_rfl
theorem lo4 : (List.range' 200 50).all (rowFine Tryz.prog) = true := by kernel_rfl
theorem lo5 : (List.range' 250 50).all (rowFine Tryz.prog) = true := by kernel_rfl
theorem lo6 : (List.range' 300 50).all (rowFine Tryz.prog) = true := by kernel_rfl
theorem lo7 : (List.range' 350 50).all (rowFine Tryz.prog) = true := by kernel_rfl
theorem lo8 : (List.range' 400 50).all (rowFine Tryz.prog) = true := by kernel_rfl
theorem lo9 : (List.range' 450 50).all (rowFine Tryz.prog) = true := by kernel_rfl
theorem lo10 : (List.range' 500 50).all (rowFine Tryz.prog) = true := by kernel_rfl
theorem lo11 : (List.range' 550 50).all (rowFine Tryz.prog) = true := by kernel_rfl
theorem lo12 : (List.range' 600 50).all (rowFine Tryz.prog) = true := by kernel_rfl
theorem lo13 : (List.range' 650 50).all (rowFine Tryz.prog) = true := by kernel_rfl
theorem lo14 : (List.range' 700 50).all (rowFine Tryz.prog) = true := by kernel_rfl
theorem lo15 : (List.range' 750 50).all (rowFine Tryz.prog) = true := by kernel_rfl
theorem lo16 : (List.range' 800 50).all (rowFine Tryz.prog) = true := by kernel_rfl
theorem lo17 : (List.range' 850 50).all (rowFine Tryz.prog) = true := by kernel_rfl
theorem lo18 : (List.range' 900 50).all (rowFine Tryz.prog) = true := by kernel_rfl
theorem lo19 : (List.range' 950 50).all (rowFine Tryz.prog) = true := by kernel_rfl
theorem lo20 : (List.range' 1000 34).all (rowFine Tryz.prog) = true := by kernel_rfl
theorem lo : (List.range 1034).all (rowFine Tryz.prog) = true := by
  rw [List.all_eq_true]
  intro t ht
  have ht := List.mem_range.1 ht
  by_cases h0 : t < 50
  · exact List.all_eq_true.1 lo0 t (List.mem_range'_1.2 (by omega))
  by_cases h1 : t < 100
  · exact List.all_eq_true.1 lo1 t (List.mem_range'_1.2 (by omega))
  by_cases h2 : t < 150
  · exact List.all_eq_true.1 lo2 t (List.mem_range'_1.2 (by omega))
  by_cases h3 : t < 200
  · exact List.all_eq_true.1 lo3 t (List.mem_range'_1.2 (by omega))
  by_cases h4 : t < 250
  · exact List.all_eq_true.1 lo4 t (List.mem_range'_1.2 (by omega))
  by_cases h5 : t < 300
  · exact List.all_eq_true.1 lo5 t (List.mem_range'_1.2 (by omega))
  by_cases h6 : t < 350
  · exact List.all_eq_true.1 lo6 t (List.mem_range'_1.2 (by omega))
  by_cases h7 : t < 400
  · exact List.all_eq_true.1 lo7 t (List.mem_range'_1.2 (by omega))
  by_cases h8 : t < 450
  · exact List.all_eq_true.1 lo8 t (List.mem_range'_1.2 (by omega))
  by_cases h9 : t < 500
  · exact List.all_eq_true.1 lo9 t (List.mem_range'_1.2 (by omega))
  by_cases h10 : t < 550
  · exact List.all_eq_true.1 lo10 t (List.mem_range'_1.2 (by omega))
  by_cases h11 : t < 600
  · exact List.all_eq_true.1 lo11 t (List.mem_range'_1.2 (by omega))
  by_cases h12 : t < 650
  · exact List.all_eq_true.1 lo12 t (List.mem_range'_1.2 (by omega))
  by_cases h13 : t < 700
  · exact List.all_eq_true.1 lo13 t (List.mem_range'_1.2 (by omega))
  by_cases h14 : t < 750
  · exact List.all_eq_true.1 lo14 t (List.mem_range'_1.2 (by omega))
  by_cases h15 : t < 800
  · exact List.all_eq_true.1 lo15 t (List.mem_range'_1.2 (by omega))
  by_cases h16 : t < 850
  · exact List.all_eq_true.1 lo16 t (List.mem_range'_1.2 (by omega))
  by_cases h17 : t < 900
  · exact List.all_eq_true.1 lo17 t (List.mem_range'_1.2 (by omega))
  by_cases h18 : t < 950
  · exact List.all_eq_true.1 lo18 t (List.mem_range'_1.2 (by omega))
  by_cases h19 : t < 1000
  · exact List.all_eq_true.1 lo19 t (List.mem_range'_1.2 (by omega))
  by_cases h20 : t < 1034
  · exact List.all_eq_true.1 lo20 t (List.mem_range'_1.2 (by omega))
  omega
theorem mr0 : (List.range' 0 50).all (mapR Tryz.prog) = true := by kernel_rfl
theorem mr1 : (List.range' 50 50).all (mapR Tryz.prog) = true := by kernel_rfl
theorem mr2 : (List.range' 100 50).all (mapR Tryz.prog) = true := by kernel_rfl
theorem mr3 : (List.range' 150 50).all (mapR Tryz.prog) = true := by kernel_rfl
theorem mr4 : (List.range' 200 50).all (mapR Tryz.prog) = true := by kernel_rfl
theorem mr5 : (List.range' 250 50).all (mapR Tryz.prog) = true := by kernel_rfl
theorem mr6 : (List.range' 300 50).all (mapR Tryz.prog) = true := by kernel_rfl
theorem mr7 : (List.range' 350 50).all (mapR Tryz.prog) = true := by kernel_rfl
theorem mr8 : (List.range' 400 50).all (mapR Tryz.prog) = true := by kernel_rfl
theorem mr9 : (List.range' 450 50).all (mapR Tryz.prog) = true := by kernel_rfl
theorem mr10 : (List.range' 500 50).all (mapR Tryz.prog) = true := by kernel_rfl
theorem mr11 : (List.range' 550 50).all (mapR Tryz.prog) = true := by kernel_rfl
theorem mr12 : (List.range' 600 50).all (mapR Tryz.prog) = true := by kernel_rfl
theorem mr13 : (List.range' 650 50).all (mapR Tryz.prog) = true := by kernel_rfl
theorem mr14 : (List.range' 700 50).all (mapR Tryz.prog) = true := by kernel_rfl
theorem mr15 : (List.range' 750 50).all (mapR Tryz.prog) = true := by kernel_rfl
theorem mr16 : (List.range' 800 50).all (mapR Tryz.prog) = true := by kernel_rfl
theorem mr17 : (List.range' 850 50).all (mapR Tryz.prog) = true := by kernel_rfl
theorem mr18 : (List.range' 900 50).all (mapR Tryz.prog) = true := by kernel_rfl
theorem mr19 : (List.range' 950 50).all (mapR Tryz.prog) = true := by kernel_rfl
theorem mr20 : (List.range' 1000 34).all (mapR Tryz.prog) = true := by kernel_rfl
theorem mr : (List.range 1034).all (mapR Tryz.prog) = true := by
  rw [List.all_eq_true]
  intro t ht
  have ht := List.mem_range.1 ht
  by_cases h0 : t < 50
  · exact List.all_eq_true.1 mr0 t (List.mem_range'_1.2 (by omega))
  by_cases h1 : t < 100
  · exact List.all_eq_true.1 mr1 t (List.mem_range'_1.2 (by omega))
  by_cases h2 : t < 150
  · exact List.all_eq_true.1 mr2 t (List.mem_range'_1.2 (by omega))
  by_cases h3 : t < 200
  · exact List.all_eq_true.1 mr3 t (List.mem_range'_1.2 (by omega))
  by_cases h4 : t < 250
  · exact List.all_eq_true.1 mr4 t (List.mem_range'_1.2 (by omega))
  by_cases h5 : t < 300
  · exact List.all_eq_true.1 mr5 t (List.mem_range'_1.2 (by omega))
  by_cases h6 : t < 350
  · exact List.all_eq_true.1 mr6 t (List.mem_range'_1.2 (by omega))
  by_cases h7 : t < 400
  · exact List.all_eq_true.1 mr7 t (List.mem_range'_1.2 (by omega))
  by_cases h8 : t < 450
  · exact List.all_eq_true.1 mr8 t (List.mem_range'_1.2 (by omega))
  by_cases h9 : t < 500
  · exact List.all_eq_true.1 mr9 t (List.mem_range'_1.2 (by omega))
  by_cases h10 : t < 550
  · exact List.all_eq_true.1 mr10 t (List.mem_range'_1.2 (by omega))
  by_cases h11 : t < 600
  · exact List.all_eq_true.1 mr11 t (List.mem_range'_1.2 (by omega))
  by_cases h12 : t < 650
  · exact List.all_eq_true.1 mr12 t (List.mem_range'_1.2 (by omega))
  by_cases h13 : t < 700
  · exact List.all_eq_true.1 mr13 t (List.mem_range'_1.2 (by omega))
  by_cases h14 : t < 750
  · exact List.all_eq_true.1 mr14 t (List.mem_range'_1.2 (by omega))
  by_cases h15 : t < 800
  · exact List.all_eq_true.1 mr15 t (List.mem_range'_1.2 (by omega))
  by_cases h16 : t < 850
  · exact List.all_eq_true.1 mr16 t (List.mem_range'_1.2 (by omega))
  by_cases h17 : t < 900
  · exact List.all_eq_true.1 mr17 t (List.mem_range'_1.2 (by omega))
  by_cases h18 : t < 950
  · exact List.all_eq_true.1 mr18 t (List.mem_range'_1.2 (by omega))
  by_cases h19 : t < 1000
  · exact List.all_eq_true.1 mr19 t (List.mem_range'_1.2 (by omega))
  by_cases h20 : t < 1034
  · exact List.all_eq_true.1 mr20 t (List.mem_range'_1.2 (by omega))
  omega
theorem kr0 : (List.range' 0 50).all (keyR Tryz.prog) = true := by kernel_rfl
theorem kr1 : (List.range' 50 50).all (keyR Tryz.prog) = true := by kernel_rfl
theorem kr2 : (List.range' 100 50).all (keyR Tryz.prog) = true := by kernel_rfl
theorem kr3 : (List.range' 150 50).all (keyR Tryz.prog) = true := by kernel_rfl
theorem kr4 : (List.range' 200 50).all (keyR Tryz.prog) = true := by kernel_rfl
theorem kr5 : (List.range' 250 50).all (keyR Tryz.prog) = true := by kernel_rfl
theorem kr6 : (List.range' 300 50).all (keyR Tryz.prog) = true := by kernel_rfl
theorem kr7 : (List.range' 350 50).all (keyR Tryz.prog) = true := by kernel_rfl
theorem kr8 : (List.range' 400 50).all (keyR Tryz.prog) = true := by kernel_rfl
theorem kr9 : (List.range' 450 50).all (keyR Tryz.prog) = true := by kernel_rfl
theorem kr10 : (List.range' 500 50).all (keyR Tryz.prog) = true := by kernel_rfl
theorem kr11 : (List.range' 550 50).all (keyR Tryz.prog) = true := by kernel_rfl
theorem kr12 : (List.range' 600 50).all (keyR Tryz.prog) = true := by kernel_rfl
theorem kr13 : (List.range' 650 50).all (keyR Tryz.prog) = true := by kernel_rfl
theorem kr14 : (List.range' 700 50).all (keyR Tryz.prog) = true := by kernel_rfl
theorem kr15 : (List.range' 750 50).all (keyR Tryz.prog) = true := by kernel_rfl
theorem kr16 : (List.range' 800 50).all (keyR Tryz.prog) = true := by kernel_rfl
theorem kr17 : (List.range' 850 50).all (keyR Tryz.prog) = true := by kernel_rfl
theorem kr18 : (List.range' 900 50).all (keyR Tryz.prog) = true := by kernel_rfl
theorem kr19 : (List.range' 950 50).all (keyR Tryz.prog) = true := by kernel_rfl
theorem kr20 : (List.range' 1000 34).all (keyR Tryz.prog) = true := by kernel_rfl
theorem kr : (List.range 1034).all (keyR Tryz.prog) = true := by
  rw [List.all_eq_true]
  intro t ht
  have ht := List.mem_range.1 ht
  by_cases h0 : t < 50
  · exact List.all_eq_true.1 kr0 t (List.mem_range'_1.2 (by omega))
  by_cases h1 : t < 100
  · exact List.all_eq_true.1 kr1 t (List.mem_range'_1.2 (by omega))
  by_cases h2 : t < 150
  · exact List.all_eq_true.1 kr2 t (List.mem_range'_1.2 (by omega))
  by_cases h3 : t < 200
  · exact List.all_eq_true.1 kr3 t (List.mem_range'_1.2 (by omega))
  by_cases h4 : t < 250
  · exact List.all_eq_true.1 kr4 t (List.mem_range'_1.2 (by omega))
  by_cases h5 : t < 300
  · exact List.all_eq_true.1 kr5 t (List.mem_range'_1.2 (by omega))
  by_cases h6 : t < 350
  · exact List.all_eq_true.1 kr6 t (List.mem_range'_1.2 (by omega))
  by_cases h7 : t < 400
  · exact List.all_eq_true.1 kr7 t (List.mem_range'_1.2 (by omega))
  by_cases h8 : t < 450
  · exact List.all_eq_true.1 kr8 t (List.mem_range'_1.2 (by omega))
  by_cases h9 : t < 500
  · exact List.all_eq_true.1 kr9 t (List.mem_range'_1.2 (by omega))
  by_cases h10 : t < 550
  · exact List.all_eq_true.1 kr10 t (List.mem_range'_1.2 (by omega))
  by_cases h11 : t < 600
  · exact List.all_eq_true.1 kr11 t (List.mem_range'_1.2 (by omega))
  by_cases h12 : t < 650
  · exact List.all_eq_true.1 kr12 t (List.mem_range'_1.2 (by omega))
  by_cases h13 : t < 700
  · exact List.all_eq_true.1 kr13 t (List.mem_range'_1.2 (by omega))
  by_cases h14 : t < 750
  · exact List.all_eq_true.1 kr14 t (List.mem_range'_1.2 (by omega))
  by_cases h15 : t < 800
  · exact List.all_eq_true.1 kr15 t (List.mem_range'_1.2 (by omega))
  by_cases h16 : t < 850
  · exact List.all_eq_true.1 kr16 t (List.mem_range'_1.2 (by omega))
  by_cases h17 : t < 900
  · exact List.all_eq_true.1 kr17 t (List.mem_range'_1.2 (by omega))
  by_cases h18 : t < 950
  · exact List.all_eq_true.1 kr18 t (List.mem_range'_1.2 (by omega))
  by_cases h19 : t < 1000
  · exact List.all_eq_true.1 kr19 t (List.mem_range'_1.2 (by omega))
  by_cases h20 : t < 1034
  · exact List.all_eq_true.1 kr20 t (List.mem_range'_1.2 (by omega))
  omega
theorem lo_b : (Tryz.prog.globals.all fun g => decide (g.type < Tryz.prog.types.size)) = true := by kernel_rfl
theorem lo_c : (Tryz.prog.funcs.all fun f => f.params.all fun t => decide (t < Tryz.prog.types.size)) = true := by
  rw [nTypes, ← Array.all_toList]
  kernel_rfl
theorem and_i {a b : Bool} (h1 : a = true) (h2 : b = true) : (a && b) = true := by rw [h1, h2]; rfl
theorem laidOut : laidOutB Tryz.prog = true := and_i (and_i (by rw [nTypes]; exact lo) lo_b) lo_c
theorem mapsR : mapsRowed Tryz.prog = true := by
  unfold mapsRowed
  rw [nTypes]
  exact mr
end Z
end Go.Proofs.YtladkmnfmpojiaaGreatDoor
