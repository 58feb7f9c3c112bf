/- Arguments that read as data are values of the printer's kinds, of at most the reading's bulk. Written by wip/tools/mkops.py. -/
import Derived.Test.YtkceipkedmfeiaaGreatDoorOpensW
import Derived.Laws.IdiomArrays
import Derived.Test.YtkceipkedmfeiaaGreatDoorX30x0
import Derived.Test.YtkceipkedmfeiaaGreatDoorX30x9
namespace Go.Proofs.YtkceipkedmfeiaaGreatDoor.X30
open Go Go.RowKit Go.ChangeShapes Go.Proofs.YtkceipkedmfeiaaGreatDoorW.PrintWords Go.Proofs.YtkceipkedmfeiaaGreatDoor.OpensW
set_option linter.unusedVariables false
theorem opw4 : Opens Tryz.prog 4 Kd.bool (fun _ => True) := opens_bool Tryz.underlying4 (by kernel_rfl)
theorem opw9 : Opens Tryz.prog 9 Kd.string (fun s : ByteArray => s.size ≤ reachBytes) := opens_string Tryz.underlying9 (by kernel_rfl)
def lim31 (x : S31) : Prop := (fun _ => True) x.f0 ∧ ((fun s : ByteArray => s.size ≤ reachBytes) x.f1)
theorem opw31 : Opens Tryz.prog 31 k31 lim31 := by
  have h1 : FieldsOpen Tryz.prog [{ name := "Mag", type := 9, offset := 1, embedded := false, tag := "", pkgPath := "", byteOffset := 8 }] 1 _ _ := fields_one rfl opw9
  have h0 : FieldsOpen Tryz.prog [{ name := "Neg", type := 4, offset := 0, embedded := false, tag := "", pkgPath := "", byteOffset := 0 }, { name := "Mag", type := 9, offset := 1, embedded := false, tag := "", pkgPath := "", byteOffset := 8 }] 0 _ _ := fields_cons rfl opw4 rfl h1
  exact opens_struct Tryz.underlying31 (by kernel_rfl) (fields_iso (fun x : S31 => (x.f0, x.f1)) (fun p => ⟨p.1, p.2⟩) (fun _ => rfl) h0)
def lim33 (x : S33) : Prop := lim31 x.f0 ∧ (lim31 x.f1 ∧ (lim31 x.f2 ∧ (lim31 x.f3)))
theorem opw33 : Opens Tryz.prog 33 k33 lim33 := by
  have h3 : FieldsOpen Tryz.prog [{ name := "D", type := 31, offset := 6, embedded := false, tag := "", pkgPath := "", byteOffset := 72 }] 6 _ _ := fields_one rfl opw31
  have h2 : FieldsOpen Tryz.prog [{ name := "C", type := 31, offset := 4, embedded := false, tag := "", pkgPath := "", byteOffset := 48 }, { name := "D", type := 31, offset := 6, embedded := false, tag := "", pkgPath := "", byteOffset := 72 }] 4 _ _ := fields_cons rfl opw31 rfl h3
  have h1 : FieldsOpen Tryz.prog [{ name := "B", type := 31, offset := 2, embedded := false, tag := "", pkgPath := "", byteOffset := 24 }, { name := "C", type := 31, offset := 4, embedded := false, tag := "", pkgPath := "", byteOffset := 48 }, { name := "D", type := 31, offset := 6, embedded := false, tag := "", pkgPath := "", byteOffset := 72 }] 2 _ _ := fields_cons rfl opw31 rfl h2
  have h0 : FieldsOpen Tryz.prog [{ name := "A", type := 31, offset := 0, embedded := false, tag := "", pkgPath := "", byteOffset := 0 }, { name := "B", type := 31, offset := 2, embedded := false, tag := "", pkgPath := "", byteOffset := 24 }, { name := "C", type := 31, offset := 4, embedded := false, tag := "", pkgPath := "", byteOffset := 48 }, { name := "D", type := 31, offset := 6, embedded := false, tag := "", pkgPath := "", byteOffset := 72 }] 0 _ _ := fields_cons rfl opw31 rfl h1
  exact opens_struct Tryz.underlying33 (by kernel_rfl) (fields_iso (fun x : S33 => (x.f0, x.f1, x.f2, x.f3)) (fun p => ⟨p.1, p.2.1, p.2.2.1, p.2.2.2⟩) (fun _ => rfl) h0)
def lim232 (x : S232) : Prop := lim31 x.f0 ∧ (lim31 x.f1 ∧ (lim31 x.f2 ∧ (lim31 x.f3)))
theorem opw232 : Opens Tryz.prog 232 k232 lim232 := by
  have h3 : FieldsOpen Tryz.prog [{ name := "W", type := 31, offset := 6, embedded := false, tag := "", pkgPath := "", byteOffset := 72 }] 6 _ _ := fields_one rfl opw31
  have h2 : FieldsOpen Tryz.prog [{ name := "Z", type := 31, offset := 4, embedded := false, tag := "", pkgPath := "", byteOffset := 48 }, { name := "W", type := 31, offset := 6, embedded := false, tag := "", pkgPath := "", byteOffset := 72 }] 4 _ _ := fields_cons rfl opw31 rfl h3
  have h1 : FieldsOpen Tryz.prog [{ name := "Y", type := 31, offset := 2, embedded := false, tag := "", pkgPath := "", byteOffset := 24 }, { name := "Z", type := 31, offset := 4, embedded := false, tag := "", pkgPath := "", byteOffset := 48 }, { name := "W", type := 31, offset := 6, embedded := false, tag := "", pkgPath := "", byteOffset := 72 }] 2 _ _ := fields_cons rfl opw31 rfl h2
  have h0 : FieldsOpen Tryz.prog [{ name := "X", type := 31, offset := 0, embedded := false, tag := "", pkgPath := "", byteOffset := 0 }, { name := "Y", type := 31, offset := 2, embedded := false, tag := "", pkgPath := "", byteOffset := 24 }, { name := "Z", type := 31, offset := 4, embedded := false, tag := "", pkgPath := "", byteOffset := 48 }, { name := "W", type := 31, offset := 6, embedded := false, tag := "", pkgPath := "", byteOffset := 72 }] 0 _ _ := fields_cons rfl opw31 rfl h1
  exact opens_struct Tryz.underlying232 (by kernel_rfl) (fields_iso (fun x : S232 => (x.f0, x.f1, x.f2, x.f3)) (fun p => ⟨p.1, p.2.1, p.2.2.1, p.2.2.2⟩) (fun _ => rfl) h0)
theorem opw3 : Opens Tryz.prog 3 (Kd.int .i64) (fun n => (Lit.int .i64 n).wf = true) := opens_int Tryz.underlying3 (by kernel_rfl)
def lim234 (x : S234) : Prop := lim232 x.f0 ∧ (lim232 x.f1 ∧ ((fun n => (Lit.int .i64 n).wf = true) x.f2))
theorem opw234 : Opens Tryz.prog 234 k234 lim234 := by
  have h2 : FieldsOpen Tryz.prog [{ name := "N", type := 3, offset := 16, embedded := false, tag := "", pkgPath := "", byteOffset := 192 }] 16 _ _ := fields_one rfl opw3
  have h1 : FieldsOpen Tryz.prog [{ name := "B", type := 232, offset := 8, embedded := false, tag := "", pkgPath := "", byteOffset := 96 }, { name := "N", type := 3, offset := 16, embedded := false, tag := "", pkgPath := "", byteOffset := 192 }] 8 _ _ := fields_cons rfl opw232 rfl h2
  have h0 : FieldsOpen Tryz.prog [{ name := "A", type := 232, offset := 0, embedded := false, tag := "", pkgPath := "", byteOffset := 0 }, { name := "B", type := 232, offset := 8, embedded := false, tag := "", pkgPath := "", byteOffset := 96 }, { name := "N", type := 3, offset := 16, embedded := false, tag := "", pkgPath := "", byteOffset := 192 }] 0 _ _ := fields_cons rfl opw232 rfl h1
  exact opens_struct Tryz.underlying234 (by kernel_rfl) (fields_iso (fun x : S234 => (x.f0, x.f1, x.f2)) (fun p => ⟨p.1, p.2.1, p.2.2⟩) (fun _ => rfl) h0)
theorem opw40 : Opens Tryz.prog 40 (Kd.slice 234 k234) (fun xs => xs.length * 200 ≤ reachBytes ∧ ∀ x ∈ xs, lim234 x) := opens_slice Tryz.underlying40 (by kernel_rfl) (by kernel_rfl) opw234
theorem opw41 : Opens Tryz.prog 41 (Kd.slice 33 k33) (fun xs => xs.length * 96 ≤ reachBytes ∧ ∀ x ∈ xs, lim33 x) := opens_slice Tryz.underlying41 (by kernel_rfl) (by kernel_rfl) opw33
def lim43 (x : S43) : Prop := lim33 x.f0 ∧ ((fun xs => xs.length * 200 ≤ reachBytes ∧ ∀ x ∈ xs, lim234 x) x.f1 ∧ ((fun xs => xs.length * 96 ≤ reachBytes ∧ ∀ x ∈ xs, lim33 x) x.f2))
theorem opw43 : Opens Tryz.prog 43 k43 lim43 := by
  have h2 : FieldsOpen Tryz.prog [{ name := "Adjacent", type := 41, offset := 9, embedded := false, tag := "", pkgPath := "", byteOffset := 120 }] 9 _ _ := fields_one rfl opw41
  have h1 : FieldsOpen Tryz.prog [{ name := "Segments", type := 40, offset := 8, embedded := false, tag := "", pkgPath := "", byteOffset := 96 }, { name := "Adjacent", type := 41, offset := 9, embedded := false, tag := "", pkgPath := "", byteOffset := 120 }] 8 _ _ := fields_cons rfl opw40 rfl h2
  have h0 : FieldsOpen Tryz.prog [{ name := "Plane", type := 33, offset := 0, embedded := false, tag := "", pkgPath := "", byteOffset := 0 }, { name := "Segments", type := 40, offset := 8, embedded := false, tag := "", pkgPath := "", byteOffset := 96 }, { name := "Adjacent", type := 41, offset := 9, embedded := false, tag := "", pkgPath := "", byteOffset := 120 }] 0 _ _ := fields_cons rfl opw33 rfl h1
  exact opens_struct Tryz.underlying43 (by kernel_rfl) (fields_iso (fun x : S43 => (x.f0, x.f1, x.f2)) (fun p => ⟨p.1, p.2.1, p.2.2⟩) (fun _ => rfl) h0)
theorem opw22 : Opens Tryz.prog 22 (Kd.slice 43 k43) (fun xs => xs.length * 144 ≤ reachBytes ∧ ∀ x ∈ xs, lim43 x) := opens_slice Tryz.underlying22 (by kernel_rfl) (by kernel_rfl) opw43
def lim50 (x : S50) : Prop := (fun s : ByteArray => s.size ≤ reachBytes) x.f0 ∧ (lim33 x.f1)
theorem opw50 : Opens Tryz.prog 50 k50 lim50 := by
  have h1 : FieldsOpen Tryz.prog [{ name := "Plane", type := 33, offset := 1, embedded := false, tag := "", pkgPath := "", byteOffset := 16 }] 1 _ _ := fields_one rfl opw33
  have h0 : FieldsOpen Tryz.prog [{ name := "Term", type := 9, offset := 0, embedded := false, tag := "", pkgPath := "", byteOffset := 0 }, { name := "Plane", type := 33, offset := 1, embedded := false, tag := "", pkgPath := "", byteOffset := 16 }] 0 _ _ := fields_cons rfl opw9 rfl h1
  exact opens_struct Tryz.underlying50 (by kernel_rfl) (fields_iso (fun x : S50 => (x.f0, x.f1)) (fun p => ⟨p.1, p.2⟩) (fun _ => rfl) h0)
theorem opw23 : Opens Tryz.prog 23 (Kd.slice 50 k50) (fun xs => xs.length * 112 ≤ reachBytes ∧ ∀ x ∈ xs, lim50 x) := opens_slice Tryz.underlying23 (by kernel_rfl) (by kernel_rfl) opw50
theorem opw24 : Opens Tryz.prog 24 (Kd.slice 9 Kd.string) (fun xs => xs.length * 16 ≤ reachBytes ∧ ∀ x ∈ xs, (fun s : ByteArray => s.size ≤ reachBytes) x) := opens_slice Tryz.underlying24 (by kernel_rfl) (by kernel_rfl) opw9
def lim26 (x : S26) : Prop := (fun s : ByteArray => s.size ≤ reachBytes) x.f0 ∧ ((fun xs => xs.length * 16 ≤ reachBytes ∧ ∀ x ∈ xs, (fun s : ByteArray => s.size ≤ reachBytes) x) x.f1)
theorem opw26 : Opens Tryz.prog 26 k26 lim26 := by
  have h1 : FieldsOpen Tryz.prog [{ name := "Adjacent", type := 24, offset := 1, embedded := false, tag := "", pkgPath := "", byteOffset := 16 }] 1 _ _ := fields_one rfl opw24
  have h0 : FieldsOpen Tryz.prog [{ name := "Term", type := 9, offset := 0, embedded := false, tag := "", pkgPath := "", byteOffset := 0 }, { name := "Adjacent", type := 24, offset := 1, embedded := false, tag := "", pkgPath := "", byteOffset := 16 }] 0 _ _ := fields_cons rfl opw9 rfl h1
  exact opens_struct Tryz.underlying26 (by kernel_rfl) (fields_iso (fun x : S26 => (x.f0, x.f1)) (fun p => ⟨p.1, p.2⟩) (fun _ => rfl) h0)
end Go.Proofs.YtkceipkedmfeiaaGreatDoor.X30
