/-
  Layer 25 (table): a table's rows, compared with empty ones.
-/
import Derived.Test.YthenjbonncbniaaTab
import Derived.Test.YthenjbonncbniaaEqArr
set_option linter.unusedVariables false
set_option linter.unusedSimpArgs false
namespace Go.Proofs.Ythenjbonncbniaa
open Go.RowKit Go.Proofs.YthenjbonncbniaaW.PrintWords Go.Proofs.YthenjbonncbniaaW.PrintLast

def Tab.rows (s : Tab) : Array Value := (s.cells.take 128).toArray
theorem fields84 : (Try.prog.fieldsOf 84).toList.map (fun f => (f.name == "_", f.type, f.offset)) = [(false, 81, 0), (false, 82, 64)] := by kernel_rfl
theorem und84 : Try.prog.underlying 84 = some (.struct (Try.prog.fieldsOf 84)) := by kernel_rfl
theorem stood84 : Try.prog.stoodInHeld 84 = false := by kernel_rfl
theorem guard84 : Try.prog.eqGuardType Try.prog.depth 84 = false := by kernel_rfl
theorem und81' : Try.prog.underlying 81 = some (.array 64 9) := by kernel_rfl
theorem und82' : Try.prog.underlying 82 = some (.array 64 59) := by kernel_rfl
theorem und9 : Try.prog.underlying 9 = some .string := by kernel_rfl
theorem und59 : Try.prog.underlying 59 = some (.int .u64) := by kernel_rfl
theorem info81 : (Try.prog.info? 81).map (·.size) = some 64 := by kernel_rfl
theorem info82 : (Try.prog.info? 82).map (·.size) = some 64 := by kernel_rfl
theorem info59 : (Try.prog.info? 59).map (·.size) = some 1 := by kernel_rfl
theorem info84 : (Try.prog.info? 84).map (·.size) = some 128 := by kernel_rfl
theorem info84z : (Try.prog.info? 84).map (·.zero) = some (some (.agg zeroT.rows)) := by kernel_rfl
theorem zero84 (w : World) : (zeroValue 84).run Try.prog w = .ok (.agg zeroT.rows) w := by
  obtain ⟨i, hi, hz⟩ := Option.map_eq_some_iff.1 info84z
  simp [zeroValue, typeInfo, hi, hz]
theorem size_of {t n : Nat} (h : (Try.prog.info? t).map (·.size) = some n) (w : World) : (Go.sizeOf t).run Try.prog w = .ok n w := by
  obtain ⟨i, hi, hs⟩ := Option.map_eq_some_iff.1 h
  simp [Go.sizeOf, typeInfo, hi, hs]
theorem part_arr {t n e len : Nat} (hu : Try.prog.underlying t = some (.array len e)) (h : (Try.prog.info? t).map (·.size) = some n) (xs : Array Value) (off : Nat) (w : World) :
    (part t xs off).run Try.prog w = .ok (.agg (xs.extract off (off + n))) w := by
  simp [part, isAgg, run_underlying hu, size_of h w]
theorem part_one {t : Nat} {d : TypeDesc} (hu : Try.prog.underlying t = some d) (hd : (match d with | .struct _ | .array _ _ => true | _ => false) = false) (xs : Array Value) (off : Nat) (v : Value) (hv : xs[off]? = some v) (w : World) :
    (part t xs off).run Try.prog w = .ok v w := by
  cases d <;> simp_all [part, isAgg, run_underlying hu]
theorem rows_name (s : Tab) (hn : s.ns.length = 64) (ht : s.ts.length = 64) (i : Nat) (hi : i < 64) : s.rows[i]? = some (.string (s.ns.getD i ⟨#[]⟩)) := by
  rw [Tab.rows, List.getElem?_toArray, List.getElem?_take, if_pos (by omega), Tab.cells, List.append_assoc, List.getElem?_append_left (by simp; omega)]
  simp [List.getElem?_eq_getElem (show i < s.ns.length by omega), List.getD_eq_getElem?_getD]
theorem rows_turn (s : Tab) (hn : s.ns.length = 64) (ht : s.ts.length = 64) (i : Nat) (hi : i < 64) : s.rows[64 + i]? = some (.int .u64 ((s.ts.getD i 0 : Nat) : Int)) := by
  rw [Tab.rows, List.getElem?_toArray, List.getElem?_take, if_pos (by omega), Tab.cells, List.append_assoc, List.getElem?_append_right (by simp; omega), List.getElem?_append_left (by simp; omega)]
  simp [hn, List.getElem?_eq_getElem (show i < s.ts.length by omega), List.getD_eq_getElem?_getD]
theorem rows_size (s : Tab) (hw : s.Wf) : s.rows.size = 128 := by
  simp [Tab.rows, Tab.cells, hw.ns, hw.ts]
theorem zero_name (i : Nat) (hi : i < 64) : zeroT.rows[i]? = some (.string ⟨#[]⟩) := by
  rw [rows_name zeroT List.length_replicate List.length_replicate i hi]
  show some (Value.string ((List.replicate 64 (⟨#[]⟩ : ByteArray)).getD i ⟨#[]⟩)) = _
  rw [List.getD_eq_getElem?_getD, List.getElem?_replicate, if_pos hi]
  rfl
theorem zero_turn (i : Nat) (hi : i < 64) : zeroT.rows[64 + i]? = some (.int .u64 0) := by
  rw [rows_turn zeroT List.length_replicate List.length_replicate i hi]
  show some (Value.int .u64 (((List.replicate 64 0).getD i 0 : Nat) : Int)) = _
  rw [List.getD_eq_getElem?_getD, List.getElem?_replicate, if_pos hi]
  rfl
theorem zero_size : zeroT.rows.size = 128 := by simp [Tab.rows, zeroT_len]
/-- No name, no turn. -/
def Tab.blank (s : Tab) : Bool := ((List.range 64).all fun i => (s.ns.getD i ⟨#[]⟩).toList == (⟨#[]⟩ : ByteArray).toList) && ((List.range 64).all fun i => ((s.ts.getD i 0 : Nat) : Int) == 0)
theorem ext_get (xs : Array Value) (o i n : Nat) (h : i < n) (hx : o + n ≤ xs.size) : (xs.extract o (o + n))[i]? = xs[o + i]? := by
  rw [Array.getElem?_extract, if_pos (by omega)]
theorem eq84 (s : Tab) (hw : s.Wf) (w : World) : (Op.equalIn 10000 84 (.agg s.rows) (.agg zeroT.rows)).run Try.prog w = .ok s.blank w := by
  rw [show (10000 : Nat) = 9999 + 1 from rfl, run_equalIn_struct w 9999 84 _ _ und84 stood84]
  have hf := fields84
  match hfs : (Try.prog.fieldsOf 84).toList with
  | [f1, f2] =>
    rw [hfs] at hf
    simp only [List.map_cons, List.map_nil, List.cons.injEq, Prod.mk.injEq, and_true] at hf
    obtain ⟨⟨n1, t1, o1⟩, n2, t2, o2⟩ := hf
    have p1 : (Op.equalIn 9999 81 (.agg (s.rows.extract 0 (0 + 64))) (.agg (zeroT.rows.extract 0 (0 + 64)))).run Try.prog w = .ok ((List.range 64).all fun i => (s.ns.getD i ⟨#[]⟩).toList == (⟨#[]⟩ : ByteArray).toList) w := by
      refine run_equalIn_array w 9998 81 9 64 _ _ und81' (size_of info9 w) (fun i => .string (s.ns.getD i ⟨#[]⟩)) (fun _ => .string ⟨#[]⟩) _ (fun i hi => ⟨part_one und9 rfl _ _ _ ?_ w, part_one und9 rfl _ _ _ ?_ w, ?_⟩)
      · rw [ext_get _ _ _ _ hi (by rw [rows_size s hw]; omega), Nat.zero_add]; exact rows_name s hw.ns hw.ts i hi
      · rw [ext_get _ _ _ _ hi (by rw [zero_size]; omega), Nat.zero_add]; exact zero_name i hi
      · exact run_equalIn_string (P := Try.prog) w 9997 9 _ _ und9
    have p2 : (Op.equalIn 9999 82 (.agg (s.rows.extract 64 (64 + 64))) (.agg (zeroT.rows.extract 64 (64 + 64)))).run Try.prog w = .ok ((List.range 64).all fun i => ((s.ts.getD i 0 : Nat) : Int) == 0) w := by
      refine run_equalIn_array w 9998 82 59 64 _ _ und82' (size_of info59 w) (fun i => .int .u64 ((s.ts.getD i 0 : Nat) : Int)) (fun _ => .int .u64 0) _ (fun i hi => ⟨part_one und59 rfl _ _ _ ?_ w, part_one und59 rfl _ _ _ ?_ w, ?_⟩)
      · rw [ext_get _ _ _ _ hi (by rw [rows_size s hw]; omega)]; exact rows_turn s hw.ns hw.ts i hi
      · rw [ext_get _ _ _ _ hi (by rw [zero_size]; omega)]; exact zero_turn i hi
      · exact run_equalIn_int (P := Try.prog) w 9997 59 .u64 .u64 _ _ und59
    have m1 : (f1.name ≠ "_") = True := by simpa using n1
    have m2 : (f2.name ≠ "_") = True := by simpa using n2
    unfold Tab.blank
    generalize ((List.range 64).all fun i => (s.ns.getD i ⟨#[]⟩).toList == (⟨#[]⟩ : ByteArray).toList) = b1 at *
    generalize ((List.range 64).all fun i => ((s.ts.getD i 0 : Nat) : Int) == 0) = b2 at *
    simp only [Op.eqFields, m1, m2, if_true, t1, t2, o1, o2, Sem.run_bind, part_arr und81' info81, Result.andThen_ok, p1]
    cases b1 with
    | false => simp
    | true => cases b2 <;> simp [part_arr und82' info82, p2]
  | [] => rw [hfs] at hf; simp at hf
  | [_] => rw [hfs] at hf; simp at hf
  | _ :: _ :: _ :: _ => rw [hfs] at hf; simp at hf
theorem eql84 (s : Tab) (hw : s.Wf) (w : World) : (binOp .eql 84 (.agg s.rows) (.agg zeroT.rows)).run Try.prog w = .ok (.bool s.blank) w := by
  rw [run_eql_struct, eq84 s hw w]
  rfl
end Go.Proofs.Ythenjbonncbniaa
