/- The engine, part 8: what the walks ask of this program's types, told once. -/
import Derived.Test.YtnpgeohkmdcbkaaEng7
namespace Go.Proofs.Ytnpgeohkmdcbkaa.Aq
open Go Go.RowKit

theorem info2 : (Try.prog.info? 2).map (fun i => (i.zero, i.size, i.bytes)) = some (some (.int .i64 0), 1, 8) := by kernel_rfl
theorem info3 : (Try.prog.info? 3).map (fun i => (i.zero, i.size, i.bytes)) = some (some (.int .i64 0), 1, 8) := by kernel_rfl
theorem info4 : (Try.prog.info? 4).map (fun i => (i.zero, i.size, i.bytes)) = some (some (.bool false), 1, 1) := by kernel_rfl
theorem info82 : (Try.prog.info? 82).map (fun i => (i.zero, i.size, i.bytes)) = some (some (.agg #[.int .i64 0, .int .i64 0, .int .i64 0]), 3, 24) := by kernel_rfl
theorem info26 : (Try.prog.info? 26).map (fun i => (i.zero, i.size, i.bytes)) = some (some (.slice none 0 0), 1, 24) := by kernel_rfl
theorem info108 : (Try.prog.info? 108).map (fun i => (i.zero, i.size, i.bytes)) = some (some (.agg #[.int .i64 0, .int .i64 0]), 2, 16) := by kernel_rfl

section
variable (w : World)
theorem pl24 : ∀ w, (#[({ name := "N", type := 3, offset := 0, embedded := false, tag := "", pkgPath := "", byteOffset := 0 } : Field), { name := "S", type := 3, offset := 1, embedded := false, tag := "", pkgPath := "", byteOffset := 8 },
    { name := "T", type := 3, offset := 2, embedded := false, tag := "", pkgPath := "", byteOffset := 16 }, { name := "Arcs", type := 22, offset := 3, embedded := false, tag := "", pkgPath := "", byteOffset := 24 }].mapM fun (f : Field) => do pure (f.offset, ← sizeOf f.type)).run Try.prog w = .ok #[(0, 1), (1, 1), (2, 1), (3, 1)] w := by
  intro w
  simp [Try.sizeOf3, Try.sizeOf22]
theorem pl82 : ∀ w, (#[({ name := "From", type := 3, offset := 0, embedded := false, tag := "", pkgPath := "", byteOffset := 0 } : Field), { name := "To", type := 3, offset := 1, embedded := false, tag := "", pkgPath := "", byteOffset := 8 },
    { name := "Cap", type := 2, offset := 2, embedded := false, tag := "", pkgPath := "", byteOffset := 16 }].mapM fun (f : Field) => do pure (f.offset, ← sizeOf f.type)).run Try.prog w = .ok #[(0, 1), (1, 1), (2, 1)] w := by
  intro w
  simp [Try.sizeOf3, Try.sizeOf2]
theorem pl53 : ∀ w, (#[({ name := "Given", type := 2, offset := 0, embedded := false, tag := "", pkgPath := "", byteOffset := 0 } : Field), { name := "Sum", type := 3, offset := 1, embedded := false, tag := "", pkgPath := "", byteOffset := 8 }].mapM fun (f : Field) => do pure (f.offset, ← sizeOf f.type)).run Try.prog w = .ok #[(0, 1), (1, 1)] w := by
  intro w
  simp [Try.sizeOf3, Try.sizeOf2]
theorem pl56 : ∀ w, (#[({ name := "Res", type := 25, offset := 0, embedded := false, tag := "", pkgPath := "", byteOffset := 0 } : Field), { name := "Ex", type := 25, offset := 1, embedded := false, tag := "", pkgPath := "", byteOffset := 24 }, { name := "H", type := 26, offset := 2, embedded := false, tag := "", pkgPath := "", byteOffset := 48 }].mapM fun (f : Field) => do pure (f.offset, ← sizeOf f.type)).run Try.prog w = .ok #[(0, 1), (1, 1), (2, 1)] w := by
  intro w
  simp [Try.sizeOf25, Try.sizeOf26]
theorem pl108 : ∀ w, (#[({ name := "high", type := 3, offset := 0, embedded := false, tag := "", pkgPath := "acequia/repair", byteOffset := 0 } : Field), { name := "v", type := 3, offset := 1, embedded := false, tag := "", pkgPath := "acequia/repair", byteOffset := 8 }].mapM fun (f : Field) => do pure (f.offset, ← sizeOf f.type)).run Try.prog w = .ok #[(0, 1), (1, 1)] w := by
  intro w
  simp [Try.sizeOf3]
theorem pl29 : ∀ w, (#[({ name := "N", type := 3, offset := 0, embedded := false, tag := "", pkgPath := "", byteOffset := 0 } : Field), { name := "S", type := 3, offset := 1, embedded := false, tag := "", pkgPath := "", byteOffset := 8 }, { name := "T", type := 3, offset := 2, embedded := false, tag := "", pkgPath := "", byteOffset := 16 },
    { name := "First", type := 26, offset := 3, embedded := false, tag := "", pkgPath := "", byteOffset := 24 }, { name := "Head", type := 26, offset := 4, embedded := false, tag := "", pkgPath := "", byteOffset := 48 }, { name := "Rev", type := 26, offset := 5, embedded := false, tag := "", pkgPath := "", byteOffset := 72 },
    { name := "Cap", type := 25, offset := 6, embedded := false, tag := "", pkgPath := "", byteOffset := 96 }, { name := "Arc", type := 26, offset := 7, embedded := false, tag := "", pkgPath := "", byteOffset := 120 }, { name := "Back", type := 27, offset := 8, embedded := false, tag := "", pkgPath := "", byteOffset := 144 }].mapM fun (f : Field) => do pure (f.offset, ← sizeOf f.type)).run Try.prog w = .ok #[(0, 1), (1, 1), (2, 1), (3, 1), (4, 1), (5, 1), (6, 1), (7, 1), (8, 1)] w := by
  intro w
  simp [Try.sizeOf3, Try.sizeOf26, Try.sizeOf25, Try.sizeOf27]
end
end Go.Proofs.Ytnpgeohkmdcbkaa.Aq
