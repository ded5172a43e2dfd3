/- The contract of the reference's Of: what a series goes by. -/
import Derived.Test.YtbdichmkgcngbaaGreatRunSrIs
import Derived.Test.YtbdichmkgcngbaaGreatAgOfR
import Derived.Test.YtbdichmkgcngbaaGreatRunFxSqR
namespace Go.Proofs.YtbdichmkgcngbaaGreat
open Go.RowKit
set_option linter.unusedVariables false
set_option linter.unusedSimpArgs false

set_option maxRecDepth 100000 in
set_option maxHeartbeats 1600000 in
theorem rfof_0 (nm : ByteArray) (s : Sr) (A : Option Addr) (c : Nat) (w : World) (hl : s.vals.length ≤ 1000000) (hr : Rv w A s.vals) (e0 : (nm.toList == [115, 111, 114, 116, 66, 121, 77, 97, 120, 105, 109, 97]) = true) :
  Calls Tryz.prog 19 #[.string nm, aggSr s A c] w (RetVl (aggV 4 s.vals) w) := by
 unfold aggSr
 go_enter Tryz.func19, Tryz.ntmps19
 go_wp2_with fail
 refine (ragg_of_any 4 A c s.vals _ hl ?hr).mono ?_
 case hr => exact hr.gr (by repeat (first | exact Gr.refl _ | refine Gr.alloc ?_ _ | refine Gr.drew ?_ | refine Gr.setCell ?_ (by first | (simp; done) | (simp; omega) | omega) _ | refine Gr.trans ?_ (by assumption)))
 rintro e w1 ⟨rfl, hg⟩
 have z1 := hg.size
 simp at z1
 have z0 : w.heap.size < w1.heap.size := by omega
 have z2 : w.heap.size + 1 < w1.heap.size := by omega
 obtain ⟨hc, hf⟩ := hg.cells
 have q0 : w1.cell? ⟨w.heap.size + 1, 0, none⟩ = some (.bool false) := by go_simp
 have q1 : w1.cell? ⟨w.heap.size + 1, 1, none⟩ = some (.int .i64 0) := by go_simp
 have f0 : w1.frozen? ⟨w.heap.size + 1, 0, none⟩ = false := by go_simp
 have f1 : w1.frozen? ⟨w.heap.size + 1, 1, none⟩ = false := by go_simp
 have gw : Gr w w1 := (by repeat (first | exact Gr.refl _ | refine Gr.alloc ?_ _ | refine Gr.drew ?_ | refine Gr.setCell ?_ (by first | (simp; done) | (simp; omega) | omega) _ | refine Gr.trans ?_ (by assumption)))
 clear hc hf hg
 go_wp2
 exact bodyPost_ret (v := .agg #[.bool (aggV 4 s.vals).ok, .int .i64 (aggV 4 s.vals).n]) (by simp [results, Tryz.results19, go_sem, *]) rfl ⟨rfl, (by repeat (first | exact Gr.refl _ | refine Gr.alloc ?_ _ | refine Gr.drew ?_ | refine Gr.setCell ?_ (by first | (simp; done) | (simp; omega) | omega) _ | refine Gr.trans ?_ (by assumption)))⟩
set_option maxRecDepth 100000 in
set_option maxHeartbeats 1600000 in
theorem rfof_1 (nm : ByteArray) (s : Sr) (A : Option Addr) (c : Nat) (w : World) (hl : s.vals.length ≤ 1000000) (hr : Rv w A s.vals) (e0 : (nm.toList == [115, 111, 114, 116, 66, 121, 77, 97, 120, 105, 109, 97]) = false) (e1 : (nm.toList == [104, 105, 103, 104, 101, 115, 116, 77, 97, 120]) = true) :
  Calls Tryz.prog 19 #[.string nm, aggSr s A c] w (RetVl (aggV 4 s.vals) w) := by
 unfold aggSr
 go_enter Tryz.func19, Tryz.ntmps19
 go_wp2_with fail
 refine (ragg_of_any 4 A c s.vals _ hl ?hr).mono ?_
 case hr => exact hr.gr (by repeat (first | exact Gr.refl _ | refine Gr.alloc ?_ _ | refine Gr.drew ?_ | refine Gr.setCell ?_ (by first | (simp; done) | (simp; omega) | omega) _ | refine Gr.trans ?_ (by assumption)))
 rintro e w1 ⟨rfl, hg⟩
 have z1 := hg.size
 simp at z1
 have z0 : w.heap.size < w1.heap.size := by omega
 have z2 : w.heap.size + 1 < w1.heap.size := by omega
 obtain ⟨hc, hf⟩ := hg.cells
 have q0 : w1.cell? ⟨w.heap.size + 1, 0, none⟩ = some (.bool false) := by go_simp
 have q1 : w1.cell? ⟨w.heap.size + 1, 1, none⟩ = some (.int .i64 0) := by go_simp
 have f0 : w1.frozen? ⟨w.heap.size + 1, 0, none⟩ = false := by go_simp
 have f1 : w1.frozen? ⟨w.heap.size + 1, 1, none⟩ = false := by go_simp
 have gw : Gr w w1 := (by repeat (first | exact Gr.refl _ | refine Gr.alloc ?_ _ | refine Gr.drew ?_ | refine Gr.setCell ?_ (by first | (simp; done) | (simp; omega) | omega) _ | refine Gr.trans ?_ (by assumption)))
 clear hc hf hg
 go_wp2
 exact bodyPost_ret (v := .agg #[.bool (aggV 4 s.vals).ok, .int .i64 (aggV 4 s.vals).n]) (by simp [results, Tryz.results19, go_sem, *]) rfl ⟨rfl, (by repeat (first | exact Gr.refl _ | refine Gr.alloc ?_ _ | refine Gr.drew ?_ | refine Gr.setCell ?_ (by first | (simp; done) | (simp; omega) | omega) _ | refine Gr.trans ?_ (by assumption)))⟩
set_option maxRecDepth 100000 in
set_option maxHeartbeats 1600000 in
theorem rfof_2 (nm : ByteArray) (s : Sr) (A : Option Addr) (c : Nat) (w : World) (hl : s.vals.length ≤ 1000000) (hr : Rv w A s.vals) (e0 : (nm.toList == [115, 111, 114, 116, 66, 121, 77, 97, 120, 105, 109, 97]) = false) (e1 : (nm.toList == [104, 105, 103, 104, 101, 115, 116, 77, 97, 120]) = false) (e2 : (nm.toList == [109, 97, 120, 105, 109, 117, 109, 65, 98, 111, 118, 101]) = true) :
  Calls Tryz.prog 19 #[.string nm, aggSr s A c] w (RetVl (aggV 4 s.vals) w) := by
 unfold aggSr
 go_enter Tryz.func19, Tryz.ntmps19
 go_wp2_with fail
 refine (ragg_of_any 4 A c s.vals _ hl ?hr).mono ?_
 case hr => exact hr.gr (by repeat (first | exact Gr.refl _ | refine Gr.alloc ?_ _ | refine Gr.drew ?_ | refine Gr.setCell ?_ (by first | (simp; done) | (simp; omega) | omega) _ | refine Gr.trans ?_ (by assumption)))
 rintro e w1 ⟨rfl, hg⟩
 have z1 := hg.size
 simp at z1
 have z0 : w.heap.size < w1.heap.size := by omega
 have z2 : w.heap.size + 1 < w1.heap.size := by omega
 obtain ⟨hc, hf⟩ := hg.cells
 have q0 : w1.cell? ⟨w.heap.size + 1, 0, none⟩ = some (.bool false) := by go_simp
 have q1 : w1.cell? ⟨w.heap.size + 1, 1, none⟩ = some (.int .i64 0) := by go_simp
 have f0 : w1.frozen? ⟨w.heap.size + 1, 0, none⟩ = false := by go_simp
 have f1 : w1.frozen? ⟨w.heap.size + 1, 1, none⟩ = false := by go_simp
 have gw : Gr w w1 := (by repeat (first | exact Gr.refl _ | refine Gr.alloc ?_ _ | refine Gr.drew ?_ | refine Gr.setCell ?_ (by first | (simp; done) | (simp; omega) | omega) _ | refine Gr.trans ?_ (by assumption)))
 clear hc hf hg
 go_wp2
 exact bodyPost_ret (v := .agg #[.bool (aggV 4 s.vals).ok, .int .i64 (aggV 4 s.vals).n]) (by simp [results, Tryz.results19, go_sem, *]) rfl ⟨rfl, (by repeat (first | exact Gr.refl _ | refine Gr.alloc ?_ _ | refine Gr.drew ?_ | refine Gr.setCell ?_ (by first | (simp; done) | (simp; omega) | omega) _ | refine Gr.trans ?_ (by assumption)))⟩
set_option maxRecDepth 100000 in
set_option maxHeartbeats 1600000 in
theorem rfof_3 (nm : ByteArray) (s : Sr) (A : Option Addr) (c : Nat) (w : World) (hl : s.vals.length ≤ 1000000) (hr : Rv w A s.vals) (e0 : (nm.toList == [115, 111, 114, 116, 66, 121, 77, 97, 120, 105, 109, 97]) = false) (e1 : (nm.toList == [104, 105, 103, 104, 101, 115, 116, 77, 97, 120]) = false) (e2 : (nm.toList == [109, 97, 120, 105, 109, 117, 109, 65, 98, 111, 118, 101]) = false) (e3 : (nm.toList == [109, 97, 120, 105, 109, 117, 109, 66, 101, 108, 111, 119]) = true) :
  Calls Tryz.prog 19 #[.string nm, aggSr s A c] w (RetVl (aggV 4 s.vals) w) := by
 unfold aggSr
 go_enter Tryz.func19, Tryz.ntmps19
 go_wp2_with fail
 refine (ragg_of_any 4 A c s.vals _ hl ?hr).mono ?_
 case hr => exact hr.gr (by repeat (first | exact Gr.refl _ | refine Gr.alloc ?_ _ | refine Gr.drew ?_ | refine Gr.setCell ?_ (by first | (simp; done) | (simp; omega) | omega) _ | refine Gr.trans ?_ (by assumption)))
 rintro e w1 ⟨rfl, hg⟩
 have z1 := hg.size
 simp at z1
 have z0 : w.heap.size < w1.heap.size := by omega
 have z2 : w.heap.size + 1 < w1.heap.size := by omega
 obtain ⟨hc, hf⟩ := hg.cells
 have q0 : w1.cell? ⟨w.heap.size + 1, 0, none⟩ = some (.bool false) := by go_simp
 have q1 : w1.cell? ⟨w.heap.size + 1, 1, none⟩ = some (.int .i64 0) := by go_simp
 have f0 : w1.frozen? ⟨w.heap.size + 1, 0, none⟩ = false := by go_simp
 have f1 : w1.frozen? ⟨w.heap.size + 1, 1, none⟩ = false := by go_simp
 have gw : Gr w w1 := (by repeat (first | exact Gr.refl _ | refine Gr.alloc ?_ _ | refine Gr.drew ?_ | refine Gr.setCell ?_ (by first | (simp; done) | (simp; omega) | omega) _ | refine Gr.trans ?_ (by assumption)))
 clear hc hf hg
 go_wp2
 exact bodyPost_ret (v := .agg #[.bool (aggV 4 s.vals).ok, .int .i64 (aggV 4 s.vals).n]) (by simp [results, Tryz.results19, go_sem, *]) rfl ⟨rfl, (by repeat (first | exact Gr.refl _ | refine Gr.alloc ?_ _ | refine Gr.drew ?_ | refine Gr.setCell ?_ (by first | (simp; done) | (simp; omega) | omega) _ | refine Gr.trans ?_ (by assumption)))⟩
set_option maxRecDepth 100000 in
set_option maxHeartbeats 1600000 in
theorem rfof_4 (nm : ByteArray) (s : Sr) (A : Option Addr) (c : Nat) (w : World) (hl : s.vals.length ≤ 1000000) (hr : Rv w A s.vals) (e0 : (nm.toList == [115, 111, 114, 116, 66, 121, 77, 97, 120, 105, 109, 97]) = false) (e1 : (nm.toList == [104, 105, 103, 104, 101, 115, 116, 77, 97, 120]) = false) (e2 : (nm.toList == [109, 97, 120, 105, 109, 117, 109, 65, 98, 111, 118, 101]) = false) (e3 : (nm.toList == [109, 97, 120, 105, 109, 117, 109, 66, 101, 108, 111, 119]) = false) (e4 : (nm.toList == [115, 111, 114, 116, 66, 121, 84, 111, 116, 97, 108]) = true) :
  Calls Tryz.prog 19 #[.string nm, aggSr s A c] w (RetVl (aggV 2 s.vals) w) := by
 unfold aggSr
 go_enter Tryz.func19, Tryz.ntmps19
 go_wp2_with fail
 refine (ragg_of_any 2 A c s.vals _ hl ?hr).mono ?_
 case hr => exact hr.gr (by repeat (first | exact Gr.refl _ | refine Gr.alloc ?_ _ | refine Gr.drew ?_ | refine Gr.setCell ?_ (by first | (simp; done) | (simp; omega) | omega) _ | refine Gr.trans ?_ (by assumption)))
 rintro e w1 ⟨rfl, hg⟩
 have z1 := hg.size
 simp at z1
 have z0 : w.heap.size < w1.heap.size := by omega
 have z2 : w.heap.size + 1 < w1.heap.size := by omega
 obtain ⟨hc, hf⟩ := hg.cells
 have q0 : w1.cell? ⟨w.heap.size + 1, 0, none⟩ = some (.bool false) := by go_simp
 have q1 : w1.cell? ⟨w.heap.size + 1, 1, none⟩ = some (.int .i64 0) := by go_simp
 have f0 : w1.frozen? ⟨w.heap.size + 1, 0, none⟩ = false := by go_simp
 have f1 : w1.frozen? ⟨w.heap.size + 1, 1, none⟩ = false := by go_simp
 have gw : Gr w w1 := (by repeat (first | exact Gr.refl _ | refine Gr.alloc ?_ _ | refine Gr.drew ?_ | refine Gr.setCell ?_ (by first | (simp; done) | (simp; omega) | omega) _ | refine Gr.trans ?_ (by assumption)))
 clear hc hf hg
 go_wp2
 exact bodyPost_ret (v := .agg #[.bool (aggV 2 s.vals).ok, .int .i64 (aggV 2 s.vals).n]) (by simp [results, Tryz.results19, go_sem, *]) rfl ⟨rfl, (by repeat (first | exact Gr.refl _ | refine Gr.alloc ?_ _ | refine Gr.drew ?_ | refine Gr.setCell ?_ (by first | (simp; done) | (simp; omega) | omega) _ | refine Gr.trans ?_ (by assumption)))⟩
set_option maxRecDepth 100000 in
set_option maxHeartbeats 1600000 in
theorem rfof_5 (nm : ByteArray) (s : Sr) (A : Option Addr) (c : Nat) (w : World) (hl : s.vals.length ≤ 1000000) (hr : Rv w A s.vals) (e0 : (nm.toList == [115, 111, 114, 116, 66, 121, 77, 97, 120, 105, 109, 97]) = false) (e1 : (nm.toList == [104, 105, 103, 104, 101, 115, 116, 77, 97, 120]) = false) (e2 : (nm.toList == [109, 97, 120, 105, 109, 117, 109, 65, 98, 111, 118, 101]) = false) (e3 : (nm.toList == [109, 97, 120, 105, 109, 117, 109, 66, 101, 108, 111, 119]) = false) (e4 : (nm.toList == [115, 111, 114, 116, 66, 121, 84, 111, 116, 97, 108]) = false) (e5 : (nm.toList == [115, 111, 114, 116, 66, 121, 77, 105, 110, 105, 109, 97]) = true) :
  Calls Tryz.prog 19 #[.string nm, aggSr s A c] w (RetVl (aggV 5 s.vals) w) := by
 unfold aggSr
 go_enter Tryz.func19, Tryz.ntmps19
 go_wp2_with fail
 refine (ragg_of_any 5 A c s.vals _ hl ?hr).mono ?_
 case hr => exact hr.gr (by repeat (first | exact Gr.refl _ | refine Gr.alloc ?_ _ | refine Gr.drew ?_ | refine Gr.setCell ?_ (by first | (simp; done) | (simp; omega) | omega) _ | refine Gr.trans ?_ (by assumption)))
 rintro e w1 ⟨rfl, hg⟩
 have z1 := hg.size
 simp at z1
 have z0 : w.heap.size < w1.heap.size := by omega
 have z2 : w.heap.size + 1 < w1.heap.size := by omega
 obtain ⟨hc, hf⟩ := hg.cells
 have q0 : w1.cell? ⟨w.heap.size + 1, 0, none⟩ = some (.bool false) := by go_simp
 have q1 : w1.cell? ⟨w.heap.size + 1, 1, none⟩ = some (.int .i64 0) := by go_simp
 have f0 : w1.frozen? ⟨w.heap.size + 1, 0, none⟩ = false := by go_simp
 have f1 : w1.frozen? ⟨w.heap.size + 1, 1, none⟩ = false := by go_simp
 have gw : Gr w w1 := (by repeat (first | exact Gr.refl _ | refine Gr.alloc ?_ _ | refine Gr.drew ?_ | refine Gr.setCell ?_ (by first | (simp; done) | (simp; omega) | omega) _ | refine Gr.trans ?_ (by assumption)))
 clear hc hf hg
 go_wp2
 exact bodyPost_ret (v := .agg #[.bool (aggV 5 s.vals).ok, .int .i64 (aggV 5 s.vals).n]) (by simp [results, Tryz.results19, go_sem, *]) rfl ⟨rfl, (by repeat (first | exact Gr.refl _ | refine Gr.alloc ?_ _ | refine Gr.drew ?_ | refine Gr.setCell ?_ (by first | (simp; done) | (simp; omega) | omega) _ | refine Gr.trans ?_ (by assumption)))⟩
set_option maxRecDepth 100000 in
set_option maxHeartbeats 1600000 in
theorem rfof_6 (nm : ByteArray) (s : Sr) (A : Option Addr) (c : Nat) (w : World) (hl : s.vals.length ≤ 1000000) (hr : Rv w A s.vals) (e0 : (nm.toList == [115, 111, 114, 116, 66, 121, 77, 97, 120, 105, 109, 97]) = false) (e1 : (nm.toList == [104, 105, 103, 104, 101, 115, 116, 77, 97, 120]) = false) (e2 : (nm.toList == [109, 97, 120, 105, 109, 117, 109, 65, 98, 111, 118, 101]) = false) (e3 : (nm.toList == [109, 97, 120, 105, 109, 117, 109, 66, 101, 108, 111, 119]) = false) (e4 : (nm.toList == [115, 111, 114, 116, 66, 121, 84, 111, 116, 97, 108]) = false) (e5 : (nm.toList == [115, 111, 114, 116, 66, 121, 77, 105, 110, 105, 109, 97]) = false) (e6 : (nm.toList == [109, 105, 110, 105, 109, 117, 109, 65, 98, 111, 118, 101]) = true) :
  Calls Tryz.prog 19 #[.string nm, aggSr s A c] w (RetVl (aggV 5 s.vals) w) := by
 unfold aggSr
 go_enter Tryz.func19, Tryz.ntmps19
 go_wp2_with fail
 refine (ragg_of_any 5 A c s.vals _ hl ?hr).mono ?_
 case hr => exact hr.gr (by repeat (first | exact Gr.refl _ | refine Gr.alloc ?_ _ | refine Gr.drew ?_ | refine Gr.setCell ?_ (by first | (simp; done) | (simp; omega) | omega) _ | refine Gr.trans ?_ (by assumption)))
 rintro e w1 ⟨rfl, hg⟩
 have z1 := hg.size
 simp at z1
 have z0 : w.heap.size < w1.heap.size := by omega
 have z2 : w.heap.size + 1 < w1.heap.size := by omega
 obtain ⟨hc, hf⟩ := hg.cells
 have q0 : w1.cell? ⟨w.heap.size + 1, 0, none⟩ = some (.bool false) := by go_simp
 have q1 : w1.cell? ⟨w.heap.size + 1, 1, none⟩ = some (.int .i64 0) := by go_simp
 have f0 : w1.frozen? ⟨w.heap.size + 1, 0, none⟩ = false := by go_simp
 have f1 : w1.frozen? ⟨w.heap.size + 1, 1, none⟩ = false := by go_simp
 have gw : Gr w w1 := (by repeat (first | exact Gr.refl _ | refine Gr.alloc ?_ _ | refine Gr.drew ?_ | refine Gr.setCell ?_ (by first | (simp; done) | (simp; omega) | omega) _ | refine Gr.trans ?_ (by assumption)))
 clear hc hf hg
 go_wp2
 exact bodyPost_ret (v := .agg #[.bool (aggV 5 s.vals).ok, .int .i64 (aggV 5 s.vals).n]) (by simp [results, Tryz.results19, go_sem, *]) rfl ⟨rfl, (by repeat (first | exact Gr.refl _ | refine Gr.alloc ?_ _ | refine Gr.drew ?_ | refine Gr.setCell ?_ (by first | (simp; done) | (simp; omega) | omega) _ | refine Gr.trans ?_ (by assumption)))⟩
set_option maxRecDepth 100000 in
set_option maxHeartbeats 1600000 in
theorem rfof_7 (nm : ByteArray) (s : Sr) (A : Option Addr) (c : Nat) (w : World) (hl : s.vals.length ≤ 1000000) (hr : Rv w A s.vals) (e0 : (nm.toList == [115, 111, 114, 116, 66, 121, 77, 97, 120, 105, 109, 97]) = false) (e1 : (nm.toList == [104, 105, 103, 104, 101, 115, 116, 77, 97, 120]) = false) (e2 : (nm.toList == [109, 97, 120, 105, 109, 117, 109, 65, 98, 111, 118, 101]) = false) (e3 : (nm.toList == [109, 97, 120, 105, 109, 117, 109, 66, 101, 108, 111, 119]) = false) (e4 : (nm.toList == [115, 111, 114, 116, 66, 121, 84, 111, 116, 97, 108]) = false) (e5 : (nm.toList == [115, 111, 114, 116, 66, 121, 77, 105, 110, 105, 109, 97]) = false) (e6 : (nm.toList == [109, 105, 110, 105, 109, 117, 109, 65, 98, 111, 118, 101]) = false) (e7 : (nm.toList == [109, 105, 110, 105, 109, 117, 109, 66, 101, 108, 111, 119]) = true) :
  Calls Tryz.prog 19 #[.string nm, aggSr s A c] w (RetVl (aggV 5 s.vals) w) := by
 unfold aggSr
 go_enter Tryz.func19, Tryz.ntmps19
 go_wp2_with fail
 refine (ragg_of_any 5 A c s.vals _ hl ?hr).mono ?_
 case hr => exact hr.gr (by repeat (first | exact Gr.refl _ | refine Gr.alloc ?_ _ | refine Gr.drew ?_ | refine Gr.setCell ?_ (by first | (simp; done) | (simp; omega) | omega) _ | refine Gr.trans ?_ (by assumption)))
 rintro e w1 ⟨rfl, hg⟩
 have z1 := hg.size
 simp at z1
 have z0 : w.heap.size < w1.heap.size := by omega
 have z2 : w.heap.size + 1 < w1.heap.size := by omega
 obtain ⟨hc, hf⟩ := hg.cells
 have q0 : w1.cell? ⟨w.heap.size + 1, 0, none⟩ = some (.bool false) := by go_simp
 have q1 : w1.cell? ⟨w.heap.size + 1, 1, none⟩ = some (.int .i64 0) := by go_simp
 have f0 : w1.frozen? ⟨w.heap.size + 1, 0, none⟩ = false := by go_simp
 have f1 : w1.frozen? ⟨w.heap.size + 1, 1, none⟩ = false := by go_simp
 have gw : Gr w w1 := (by repeat (first | exact Gr.refl _ | refine Gr.alloc ?_ _ | refine Gr.drew ?_ | refine Gr.setCell ?_ (by first | (simp; done) | (simp; omega) | omega) _ | refine Gr.trans ?_ (by assumption)))
 clear hc hf hg
 go_wp2
 exact bodyPost_ret (v := .agg #[.bool (aggV 5 s.vals).ok, .int .i64 (aggV 5 s.vals).n]) (by simp [results, Tryz.results19, go_sem, *]) rfl ⟨rfl, (by repeat (first | exact Gr.refl _ | refine Gr.alloc ?_ _ | refine Gr.drew ?_ | refine Gr.setCell ?_ (by first | (simp; done) | (simp; omega) | omega) _ | refine Gr.trans ?_ (by assumption)))⟩
set_option maxRecDepth 100000 in
set_option maxHeartbeats 1600000 in
theorem rfof_8 (nm : ByteArray) (s : Sr) (A : Option Addr) (c : Nat) (w : World) (hl : s.vals.length ≤ 1000000) (hr : Rv w A s.vals) (e0 : (nm.toList == [115, 111, 114, 116, 66, 121, 77, 97, 120, 105, 109, 97]) = false) (e1 : (nm.toList == [104, 105, 103, 104, 101, 115, 116, 77, 97, 120]) = false) (e2 : (nm.toList == [109, 97, 120, 105, 109, 117, 109, 65, 98, 111, 118, 101]) = false) (e3 : (nm.toList == [109, 97, 120, 105, 109, 117, 109, 66, 101, 108, 111, 119]) = false) (e4 : (nm.toList == [115, 111, 114, 116, 66, 121, 84, 111, 116, 97, 108]) = false) (e5 : (nm.toList == [115, 111, 114, 116, 66, 121, 77, 105, 110, 105, 109, 97]) = false) (e6 : (nm.toList == [109, 105, 110, 105, 109, 117, 109, 65, 98, 111, 118, 101]) = false) (e7 : (nm.toList == [109, 105, 110, 105, 109, 117, 109, 66, 101, 108, 111, 119]) = false) (e8 : (nm.toList == [104, 105, 103, 104, 101, 115, 116, 65, 118, 101, 114, 97, 103, 101]) = true) :
  Calls Tryz.prog 19 #[.string nm, aggSr s A c] w (RetVl (aggV 1 s.vals) w) := by
 unfold aggSr
 go_enter Tryz.func19, Tryz.ntmps19
 go_wp2_with fail
 refine (ragg_of_any 1 A c s.vals _ hl ?hr).mono ?_
 case hr => exact hr.gr (by repeat (first | exact Gr.refl _ | refine Gr.alloc ?_ _ | refine Gr.drew ?_ | refine Gr.setCell ?_ (by first | (simp; done) | (simp; omega) | omega) _ | refine Gr.trans ?_ (by assumption)))
 rintro e w1 ⟨rfl, hg⟩
 have z1 := hg.size
 simp at z1
 have z0 : w.heap.size < w1.heap.size := by omega
 have z2 : w.heap.size + 1 < w1.heap.size := by omega
 obtain ⟨hc, hf⟩ := hg.cells
 have q0 : w1.cell? ⟨w.heap.size + 1, 0, none⟩ = some (.bool false) := by go_simp
 have q1 : w1.cell? ⟨w.heap.size + 1, 1, none⟩ = some (.int .i64 0) := by go_simp
 have f0 : w1.frozen? ⟨w.heap.size + 1, 0, none⟩ = false := by go_simp
 have f1 : w1.frozen? ⟨w.heap.size + 1, 1, none⟩ = false := by go_simp
 have gw : Gr w w1 := (by repeat (first | exact Gr.refl _ | refine Gr.alloc ?_ _ | refine Gr.drew ?_ | refine Gr.setCell ?_ (by first | (simp; done) | (simp; omega) | omega) _ | refine Gr.trans ?_ (by assumption)))
 clear hc hf hg
 go_wp2
 exact bodyPost_ret (v := .agg #[.bool (aggV 1 s.vals).ok, .int .i64 (aggV 1 s.vals).n]) (by simp [results, Tryz.results19, go_sem, *]) rfl ⟨rfl, (by repeat (first | exact Gr.refl _ | refine Gr.alloc ?_ _ | refine Gr.drew ?_ | refine Gr.setCell ?_ (by first | (simp; done) | (simp; omega) | omega) _ | refine Gr.trans ?_ (by assumption)))⟩
set_option maxRecDepth 100000 in
set_option maxHeartbeats 1600000 in
theorem rfof_9 (nm : ByteArray) (s : Sr) (A : Option Addr) (c : Nat) (w : World) (hl : s.vals.length ≤ 1000000) (hr : Rv w A s.vals) (e0 : (nm.toList == [115, 111, 114, 116, 66, 121, 77, 97, 120, 105, 109, 97]) = false) (e1 : (nm.toList == [104, 105, 103, 104, 101, 115, 116, 77, 97, 120]) = false) (e2 : (nm.toList == [109, 97, 120, 105, 109, 117, 109, 65, 98, 111, 118, 101]) = false) (e3 : (nm.toList == [109, 97, 120, 105, 109, 117, 109, 66, 101, 108, 111, 119]) = false) (e4 : (nm.toList == [115, 111, 114, 116, 66, 121, 84, 111, 116, 97, 108]) = false) (e5 : (nm.toList == [115, 111, 114, 116, 66, 121, 77, 105, 110, 105, 109, 97]) = false) (e6 : (nm.toList == [109, 105, 110, 105, 109, 117, 109, 65, 98, 111, 118, 101]) = false) (e7 : (nm.toList == [109, 105, 110, 105, 109, 117, 109, 66, 101, 108, 111, 119]) = false) (e8 : (nm.toList == [104, 105, 103, 104, 101, 115, 116, 65, 118, 101, 114, 97, 103, 101]) = false) (e9 : (nm.toList == [108, 111, 119, 101, 115, 116, 65, 118, 101, 114, 97, 103, 101]) = true) :
  Calls Tryz.prog 19 #[.string nm, aggSr s A c] w (RetVl (aggV 1 s.vals) w) := by
 unfold aggSr
 go_enter Tryz.func19, Tryz.ntmps19
 go_wp2_with fail
 refine (ragg_of_any 1 A c s.vals _ hl ?hr).mono ?_
 case hr => exact hr.gr (by repeat (first | exact Gr.refl _ | refine Gr.alloc ?_ _ | refine Gr.drew ?_ | refine Gr.setCell ?_ (by first | (simp; done) | (simp; omega) | omega) _ | refine Gr.trans ?_ (by assumption)))
 rintro e w1 ⟨rfl, hg⟩
 have z1 := hg.size
 simp at z1
 have z0 : w.heap.size < w1.heap.size := by omega
 have z2 : w.heap.size + 1 < w1.heap.size := by omega
 obtain ⟨hc, hf⟩ := hg.cells
 have q0 : w1.cell? ⟨w.heap.size + 1, 0, none⟩ = some (.bool false) := by go_simp
 have q1 : w1.cell? ⟨w.heap.size + 1, 1, none⟩ = some (.int .i64 0) := by go_simp
 have f0 : w1.frozen? ⟨w.heap.size + 1, 0, none⟩ = false := by go_simp
 have f1 : w1.frozen? ⟨w.heap.size + 1, 1, none⟩ = false := by go_simp
 have gw : Gr w w1 := (by repeat (first | exact Gr.refl _ | refine Gr.alloc ?_ _ | refine Gr.drew ?_ | refine Gr.setCell ?_ (by first | (simp; done) | (simp; omega) | omega) _ | refine Gr.trans ?_ (by assumption)))
 clear hc hf hg
 go_wp2
 exact bodyPost_ret (v := .agg #[.bool (aggV 1 s.vals).ok, .int .i64 (aggV 1 s.vals).n]) (by simp [results, Tryz.results19, go_sem, *]) rfl ⟨rfl, (by repeat (first | exact Gr.refl _ | refine Gr.alloc ?_ _ | refine Gr.drew ?_ | refine Gr.setCell ?_ (by first | (simp; done) | (simp; omega) | omega) _ | refine Gr.trans ?_ (by assumption)))⟩
set_option maxRecDepth 100000 in
set_option maxHeartbeats 1600000 in
theorem rfof_10 (nm : ByteArray) (s : Sr) (A : Option Addr) (c : Nat) (w : World) (hl : s.vals.length ≤ 1000000) (hr : Rv w A s.vals) (e0 : (nm.toList == [115, 111, 114, 116, 66, 121, 77, 97, 120, 105, 109, 97]) = false) (e1 : (nm.toList == [104, 105, 103, 104, 101, 115, 116, 77, 97, 120]) = false) (e2 : (nm.toList == [109, 97, 120, 105, 109, 117, 109, 65, 98, 111, 118, 101]) = false) (e3 : (nm.toList == [109, 97, 120, 105, 109, 117, 109, 66, 101, 108, 111, 119]) = false) (e4 : (nm.toList == [115, 111, 114, 116, 66, 121, 84, 111, 116, 97, 108]) = false) (e5 : (nm.toList == [115, 111, 114, 116, 66, 121, 77, 105, 110, 105, 109, 97]) = false) (e6 : (nm.toList == [109, 105, 110, 105, 109, 117, 109, 65, 98, 111, 118, 101]) = false) (e7 : (nm.toList == [109, 105, 110, 105, 109, 117, 109, 66, 101, 108, 111, 119]) = false) (e8 : (nm.toList == [104, 105, 103, 104, 101, 115, 116, 65, 118, 101, 114, 97, 103, 101]) = false) (e9 : (nm.toList == [108, 111, 119, 101, 115, 116, 65, 118, 101, 114, 97, 103, 101]) = false) (e10 : (nm.toList == [97, 118, 101, 114, 97, 103, 101, 65, 98, 111, 118, 101]) = true) :
  Calls Tryz.prog 19 #[.string nm, aggSr s A c] w (RetVl (aggV 1 s.vals) w) := by
 unfold aggSr
 go_enter Tryz.func19, Tryz.ntmps19
 go_wp2_with fail
 refine (ragg_of_any 1 A c s.vals _ hl ?hr).mono ?_
 case hr => exact hr.gr (by repeat (first | exact Gr.refl _ | refine Gr.alloc ?_ _ | refine Gr.drew ?_ | refine Gr.setCell ?_ (by first | (simp; done) | (simp; omega) | omega) _ | refine Gr.trans ?_ (by assumption)))
 rintro e w1 ⟨rfl, hg⟩
 have z1 := hg.size
 simp at z1
 have z0 : w.heap.size < w1.heap.size := by omega
 have z2 : w.heap.size + 1 < w1.heap.size := by omega
 obtain ⟨hc, hf⟩ := hg.cells
 have q0 : w1.cell? ⟨w.heap.size + 1, 0, none⟩ = some (.bool false) := by go_simp
 have q1 : w1.cell? ⟨w.heap.size + 1, 1, none⟩ = some (.int .i64 0) := by go_simp
 have f0 : w1.frozen? ⟨w.heap.size + 1, 0, none⟩ = false := by go_simp
 have f1 : w1.frozen? ⟨w.heap.size + 1, 1, none⟩ = false := by go_simp
 have gw : Gr w w1 := (by repeat (first | exact Gr.refl _ | refine Gr.alloc ?_ _ | refine Gr.drew ?_ | refine Gr.setCell ?_ (by first | (simp; done) | (simp; omega) | omega) _ | refine Gr.trans ?_ (by assumption)))
 clear hc hf hg
 go_wp2
 exact bodyPost_ret (v := .agg #[.bool (aggV 1 s.vals).ok, .int .i64 (aggV 1 s.vals).n]) (by simp [results, Tryz.results19, go_sem, *]) rfl ⟨rfl, (by repeat (first | exact Gr.refl _ | refine Gr.alloc ?_ _ | refine Gr.drew ?_ | refine Gr.setCell ?_ (by first | (simp; done) | (simp; omega) | omega) _ | refine Gr.trans ?_ (by assumption)))⟩
set_option maxRecDepth 100000 in
set_option maxHeartbeats 1600000 in
theorem rfof_11 (nm : ByteArray) (s : Sr) (A : Option Addr) (c : Nat) (w : World) (hl : s.vals.length ≤ 1000000) (hr : Rv w A s.vals) (e0 : (nm.toList == [115, 111, 114, 116, 66, 121, 77, 97, 120, 105, 109, 97]) = false) (e1 : (nm.toList == [104, 105, 103, 104, 101, 115, 116, 77, 97, 120]) = false) (e2 : (nm.toList == [109, 97, 120, 105, 109, 117, 109, 65, 98, 111, 118, 101]) = false) (e3 : (nm.toList == [109, 97, 120, 105, 109, 117, 109, 66, 101, 108, 111, 119]) = false) (e4 : (nm.toList == [115, 111, 114, 116, 66, 121, 84, 111, 116, 97, 108]) = false) (e5 : (nm.toList == [115, 111, 114, 116, 66, 121, 77, 105, 110, 105, 109, 97]) = false) (e6 : (nm.toList == [109, 105, 110, 105, 109, 117, 109, 65, 98, 111, 118, 101]) = false) (e7 : (nm.toList == [109, 105, 110, 105, 109, 117, 109, 66, 101, 108, 111, 119]) = false) (e8 : (nm.toList == [104, 105, 103, 104, 101, 115, 116, 65, 118, 101, 114, 97, 103, 101]) = false) (e9 : (nm.toList == [108, 111, 119, 101, 115, 116, 65, 118, 101, 114, 97, 103, 101]) = false) (e10 : (nm.toList == [97, 118, 101, 114, 97, 103, 101, 65, 98, 111, 118, 101]) = false) (e11 : (nm.toList == [97, 118, 101, 114, 97, 103, 101, 66, 101, 108, 111, 119]) = true) :
  Calls Tryz.prog 19 #[.string nm, aggSr s A c] w (RetVl (aggV 1 s.vals) w) := by
 unfold aggSr
 go_enter Tryz.func19, Tryz.ntmps19
 go_wp2_with fail
 refine (ragg_of_any 1 A c s.vals _ hl ?hr).mono ?_
 case hr => exact hr.gr (by repeat (first | exact Gr.refl _ | refine Gr.alloc ?_ _ | refine Gr.drew ?_ | refine Gr.setCell ?_ (by first | (simp; done) | (simp; omega) | omega) _ | refine Gr.trans ?_ (by assumption)))
 rintro e w1 ⟨rfl, hg⟩
 have z1 := hg.size
 simp at z1
 have z0 : w.heap.size < w1.heap.size := by omega
 have z2 : w.heap.size + 1 < w1.heap.size := by omega
 obtain ⟨hc, hf⟩ := hg.cells
 have q0 : w1.cell? ⟨w.heap.size + 1, 0, none⟩ = some (.bool false) := by go_simp
 have q1 : w1.cell? ⟨w.heap.size + 1, 1, none⟩ = some (.int .i64 0) := by go_simp
 have f0 : w1.frozen? ⟨w.heap.size + 1, 0, none⟩ = false := by go_simp
 have f1 : w1.frozen? ⟨w.heap.size + 1, 1, none⟩ = false := by go_simp
 have gw : Gr w w1 := (by repeat (first | exact Gr.refl _ | refine Gr.alloc ?_ _ | refine Gr.drew ?_ | refine Gr.setCell ?_ (by first | (simp; done) | (simp; omega) | omega) _ | refine Gr.trans ?_ (by assumption)))
 clear hc hf hg
 go_wp2
 exact bodyPost_ret (v := .agg #[.bool (aggV 1 s.vals).ok, .int .i64 (aggV 1 s.vals).n]) (by simp [results, Tryz.results19, go_sem, *]) rfl ⟨rfl, (by repeat (first | exact Gr.refl _ | refine Gr.alloc ?_ _ | refine Gr.drew ?_ | refine Gr.setCell ?_ (by first | (simp; done) | (simp; omega) | omega) _ | refine Gr.trans ?_ (by assumption)))⟩
set_option maxRecDepth 100000 in
set_option maxHeartbeats 1600000 in
theorem rfof_12 (nm : ByteArray) (s : Sr) (A : Option Addr) (c : Nat) (w : World) (hl : s.vals.length ≤ 1000000) (hr : Rv w A s.vals) (e0 : (nm.toList == [115, 111, 114, 116, 66, 121, 77, 97, 120, 105, 109, 97]) = false) (e1 : (nm.toList == [104, 105, 103, 104, 101, 115, 116, 77, 97, 120]) = false) (e2 : (nm.toList == [109, 97, 120, 105, 109, 117, 109, 65, 98, 111, 118, 101]) = false) (e3 : (nm.toList == [109, 97, 120, 105, 109, 117, 109, 66, 101, 108, 111, 119]) = false) (e4 : (nm.toList == [115, 111, 114, 116, 66, 121, 84, 111, 116, 97, 108]) = false) (e5 : (nm.toList == [115, 111, 114, 116, 66, 121, 77, 105, 110, 105, 109, 97]) = false) (e6 : (nm.toList == [109, 105, 110, 105, 109, 117, 109, 65, 98, 111, 118, 101]) = false) (e7 : (nm.toList == [109, 105, 110, 105, 109, 117, 109, 66, 101, 108, 111, 119]) = false) (e8 : (nm.toList == [104, 105, 103, 104, 101, 115, 116, 65, 118, 101, 114, 97, 103, 101]) = false) (e9 : (nm.toList == [108, 111, 119, 101, 115, 116, 65, 118, 101, 114, 97, 103, 101]) = false) (e10 : (nm.toList == [97, 118, 101, 114, 97, 103, 101, 65, 98, 111, 118, 101]) = false) (e11 : (nm.toList == [97, 118, 101, 114, 97, 103, 101, 66, 101, 108, 111, 119]) = false) (e12 : (nm.toList == [104, 105, 103, 104, 101, 115, 116, 67, 117, 114, 114, 101, 110, 116]) = true) :
  Calls Tryz.prog 19 #[.string nm, aggSr s A c] w (RetVl (aggV 3 s.vals) w) := by
 unfold aggSr
 go_enter Tryz.func19, Tryz.ntmps19
 go_wp2_with fail
 refine (ragg_of_any 3 A c s.vals _ hl ?hr).mono ?_
 case hr => exact hr.gr (by repeat (first | exact Gr.refl _ | refine Gr.alloc ?_ _ | refine Gr.drew ?_ | refine Gr.setCell ?_ (by first | (simp; done) | (simp; omega) | omega) _ | refine Gr.trans ?_ (by assumption)))
 rintro e w1 ⟨rfl, hg⟩
 have z1 := hg.size
 simp at z1
 have z0 : w.heap.size < w1.heap.size := by omega
 have z2 : w.heap.size + 1 < w1.heap.size := by omega
 obtain ⟨hc, hf⟩ := hg.cells
 have q0 : w1.cell? ⟨w.heap.size + 1, 0, none⟩ = some (.bool false) := by go_simp
 have q1 : w1.cell? ⟨w.heap.size + 1, 1, none⟩ = some (.int .i64 0) := by go_simp
 have f0 : w1.frozen? ⟨w.heap.size + 1, 0, none⟩ = false := by go_simp
 have f1 : w1.frozen? ⟨w.heap.size + 1, 1, none⟩ = false := by go_simp
 have gw : Gr w w1 := (by repeat (first | exact Gr.refl _ | refine Gr.alloc ?_ _ | refine Gr.drew ?_ | refine Gr.setCell ?_ (by first | (simp; done) | (simp; omega) | omega) _ | refine Gr.trans ?_ (by assumption)))
 clear hc hf hg
 go_wp2
 exact bodyPost_ret (v := .agg #[.bool (aggV 3 s.vals).ok, .int .i64 (aggV 3 s.vals).n]) (by simp [results, Tryz.results19, go_sem, *]) rfl ⟨rfl, (by repeat (first | exact Gr.refl _ | refine Gr.alloc ?_ _ | refine Gr.drew ?_ | refine Gr.setCell ?_ (by first | (simp; done) | (simp; omega) | omega) _ | refine Gr.trans ?_ (by assumption)))⟩
set_option maxRecDepth 100000 in
set_option maxHeartbeats 1600000 in
theorem rfof_13 (nm : ByteArray) (s : Sr) (A : Option Addr) (c : Nat) (w : World) (hl : s.vals.length ≤ 1000000) (hr : Rv w A s.vals) (e0 : (nm.toList == [115, 111, 114, 116, 66, 121, 77, 97, 120, 105, 109, 97]) = false) (e1 : (nm.toList == [104, 105, 103, 104, 101, 115, 116, 77, 97, 120]) = false) (e2 : (nm.toList == [109, 97, 120, 105, 109, 117, 109, 65, 98, 111, 118, 101]) = false) (e3 : (nm.toList == [109, 97, 120, 105, 109, 117, 109, 66, 101, 108, 111, 119]) = false) (e4 : (nm.toList == [115, 111, 114, 116, 66, 121, 84, 111, 116, 97, 108]) = false) (e5 : (nm.toList == [115, 111, 114, 116, 66, 121, 77, 105, 110, 105, 109, 97]) = false) (e6 : (nm.toList == [109, 105, 110, 105, 109, 117, 109, 65, 98, 111, 118, 101]) = false) (e7 : (nm.toList == [109, 105, 110, 105, 109, 117, 109, 66, 101, 108, 111, 119]) = false) (e8 : (nm.toList == [104, 105, 103, 104, 101, 115, 116, 65, 118, 101, 114, 97, 103, 101]) = false) (e9 : (nm.toList == [108, 111, 119, 101, 115, 116, 65, 118, 101, 114, 97, 103, 101]) = false) (e10 : (nm.toList == [97, 118, 101, 114, 97, 103, 101, 65, 98, 111, 118, 101]) = false) (e11 : (nm.toList == [97, 118, 101, 114, 97, 103, 101, 66, 101, 108, 111, 119]) = false) (e12 : (nm.toList == [104, 105, 103, 104, 101, 115, 116, 67, 117, 114, 114, 101, 110, 116]) = false) (e13 : (nm.toList == [108, 111, 119, 101, 115, 116, 67, 117, 114, 114, 101, 110, 116]) = true) :
  Calls Tryz.prog 19 #[.string nm, aggSr s A c] w (RetVl (aggV 3 s.vals) w) := by
 unfold aggSr
 go_enter Tryz.func19, Tryz.ntmps19
 go_wp2_with fail
 refine (ragg_of_any 3 A c s.vals _ hl ?hr).mono ?_
 case hr => exact hr.gr (by repeat (first | exact Gr.refl _ | refine Gr.alloc ?_ _ | refine Gr.drew ?_ | refine Gr.setCell ?_ (by first | (simp; done) | (simp; omega) | omega) _ | refine Gr.trans ?_ (by assumption)))
 rintro e w1 ⟨rfl, hg⟩
 have z1 := hg.size
 simp at z1
 have z0 : w.heap.size < w1.heap.size := by omega
 have z2 : w.heap.size + 1 < w1.heap.size := by omega
 obtain ⟨hc, hf⟩ := hg.cells
 have q0 : w1.cell? ⟨w.heap.size + 1, 0, none⟩ = some (.bool false) := by go_simp
 have q1 : w1.cell? ⟨w.heap.size + 1, 1, none⟩ = some (.int .i64 0) := by go_simp
 have f0 : w1.frozen? ⟨w.heap.size + 1, 0, none⟩ = false := by go_simp
 have f1 : w1.frozen? ⟨w.heap.size + 1, 1, none⟩ = false := by go_simp
 have gw : Gr w w1 := (by repeat (first | exact Gr.refl _ | refine Gr.alloc ?_ _ | refine Gr.drew ?_ | refine Gr.setCell ?_ (by first | (simp; done) | (simp; omega) | omega) _ | refine Gr.trans ?_ (by assumption)))
 clear hc hf hg
 go_wp2
 exact bodyPost_ret (v := .agg #[.bool (aggV 3 s.vals).ok, .int .i64 (aggV 3 s.vals).n]) (by simp [results, Tryz.results19, go_sem, *]) rfl ⟨rfl, (by repeat (first | exact Gr.refl _ | refine Gr.alloc ?_ _ | refine Gr.drew ?_ | refine Gr.setCell ?_ (by first | (simp; done) | (simp; omega) | omega) _ | refine Gr.trans ?_ (by assumption)))⟩
set_option maxRecDepth 100000 in
set_option maxHeartbeats 1600000 in
theorem rfof_14 (nm : ByteArray) (s : Sr) (A : Option Addr) (c : Nat) (w : World) (hl : s.vals.length ≤ 1000000) (hr : Rv w A s.vals) (e0 : (nm.toList == [115, 111, 114, 116, 66, 121, 77, 97, 120, 105, 109, 97]) = false) (e1 : (nm.toList == [104, 105, 103, 104, 101, 115, 116, 77, 97, 120]) = false) (e2 : (nm.toList == [109, 97, 120, 105, 109, 117, 109, 65, 98, 111, 118, 101]) = false) (e3 : (nm.toList == [109, 97, 120, 105, 109, 117, 109, 66, 101, 108, 111, 119]) = false) (e4 : (nm.toList == [115, 111, 114, 116, 66, 121, 84, 111, 116, 97, 108]) = false) (e5 : (nm.toList == [115, 111, 114, 116, 66, 121, 77, 105, 110, 105, 109, 97]) = false) (e6 : (nm.toList == [109, 105, 110, 105, 109, 117, 109, 65, 98, 111, 118, 101]) = false) (e7 : (nm.toList == [109, 105, 110, 105, 109, 117, 109, 66, 101, 108, 111, 119]) = false) (e8 : (nm.toList == [104, 105, 103, 104, 101, 115, 116, 65, 118, 101, 114, 97, 103, 101]) = false) (e9 : (nm.toList == [108, 111, 119, 101, 115, 116, 65, 118, 101, 114, 97, 103, 101]) = false) (e10 : (nm.toList == [97, 118, 101, 114, 97, 103, 101, 65, 98, 111, 118, 101]) = false) (e11 : (nm.toList == [97, 118, 101, 114, 97, 103, 101, 66, 101, 108, 111, 119]) = false) (e12 : (nm.toList == [104, 105, 103, 104, 101, 115, 116, 67, 117, 114, 114, 101, 110, 116]) = false) (e13 : (nm.toList == [108, 111, 119, 101, 115, 116, 67, 117, 114, 114, 101, 110, 116]) = false) (e14 : (nm.toList == [99, 117, 114, 114, 101, 110, 116, 65, 98, 111, 118, 101]) = true) :
  Calls Tryz.prog 19 #[.string nm, aggSr s A c] w (RetVl (aggV 3 s.vals) w) := by
 unfold aggSr
 go_enter Tryz.func19, Tryz.ntmps19
 go_wp2_with fail
 refine (ragg_of_any 3 A c s.vals _ hl ?hr).mono ?_
 case hr => exact hr.gr (by repeat (first | exact Gr.refl _ | refine Gr.alloc ?_ _ | refine Gr.drew ?_ | refine Gr.setCell ?_ (by first | (simp; done) | (simp; omega) | omega) _ | refine Gr.trans ?_ (by assumption)))
 rintro e w1 ⟨rfl, hg⟩
 have z1 := hg.size
 simp at z1
 have z0 : w.heap.size < w1.heap.size := by omega
 have z2 : w.heap.size + 1 < w1.heap.size := by omega
 obtain ⟨hc, hf⟩ := hg.cells
 have q0 : w1.cell? ⟨w.heap.size + 1, 0, none⟩ = some (.bool false) := by go_simp
 have q1 : w1.cell? ⟨w.heap.size + 1, 1, none⟩ = some (.int .i64 0) := by go_simp
 have f0 : w1.frozen? ⟨w.heap.size + 1, 0, none⟩ = false := by go_simp
 have f1 : w1.frozen? ⟨w.heap.size + 1, 1, none⟩ = false := by go_simp
 have gw : Gr w w1 := (by repeat (first | exact Gr.refl _ | refine Gr.alloc ?_ _ | refine Gr.drew ?_ | refine Gr.setCell ?_ (by first | (simp; done) | (simp; omega) | omega) _ | refine Gr.trans ?_ (by assumption)))
 clear hc hf hg
 go_wp2
 exact bodyPost_ret (v := .agg #[.bool (aggV 3 s.vals).ok, .int .i64 (aggV 3 s.vals).n]) (by simp [results, Tryz.results19, go_sem, *]) rfl ⟨rfl, (by repeat (first | exact Gr.refl _ | refine Gr.alloc ?_ _ | refine Gr.drew ?_ | refine Gr.setCell ?_ (by first | (simp; done) | (simp; omega) | omega) _ | refine Gr.trans ?_ (by assumption)))⟩
set_option maxRecDepth 100000 in
set_option maxHeartbeats 1600000 in
theorem rfof_15 (nm : ByteArray) (s : Sr) (A : Option Addr) (c : Nat) (w : World) (hl : s.vals.length ≤ 1000000) (hr : Rv w A s.vals) (e0 : (nm.toList == [115, 111, 114, 116, 66, 121, 77, 97, 120, 105, 109, 97]) = false) (e1 : (nm.toList == [104, 105, 103, 104, 101, 115, 116, 77, 97, 120]) = false) (e2 : (nm.toList == [109, 97, 120, 105, 109, 117, 109, 65, 98, 111, 118, 101]) = false) (e3 : (nm.toList == [109, 97, 120, 105, 109, 117, 109, 66, 101, 108, 111, 119]) = false) (e4 : (nm.toList == [115, 111, 114, 116, 66, 121, 84, 111, 116, 97, 108]) = false) (e5 : (nm.toList == [115, 111, 114, 116, 66, 121, 77, 105, 110, 105, 109, 97]) = false) (e6 : (nm.toList == [109, 105, 110, 105, 109, 117, 109, 65, 98, 111, 118, 101]) = false) (e7 : (nm.toList == [109, 105, 110, 105, 109, 117, 109, 66, 101, 108, 111, 119]) = false) (e8 : (nm.toList == [104, 105, 103, 104, 101, 115, 116, 65, 118, 101, 114, 97, 103, 101]) = false) (e9 : (nm.toList == [108, 111, 119, 101, 115, 116, 65, 118, 101, 114, 97, 103, 101]) = false) (e10 : (nm.toList == [97, 118, 101, 114, 97, 103, 101, 65, 98, 111, 118, 101]) = false) (e11 : (nm.toList == [97, 118, 101, 114, 97, 103, 101, 66, 101, 108, 111, 119]) = false) (e12 : (nm.toList == [104, 105, 103, 104, 101, 115, 116, 67, 117, 114, 114, 101, 110, 116]) = false) (e13 : (nm.toList == [108, 111, 119, 101, 115, 116, 67, 117, 114, 114, 101, 110, 116]) = false) (e14 : (nm.toList == [99, 117, 114, 114, 101, 110, 116, 65, 98, 111, 118, 101]) = false) (e15 : (nm.toList == [99, 117, 114, 114, 101, 110, 116, 66, 101, 108, 111, 119]) = true) :
  Calls Tryz.prog 19 #[.string nm, aggSr s A c] w (RetVl (aggV 3 s.vals) w) := by
 unfold aggSr
 go_enter Tryz.func19, Tryz.ntmps19
 go_wp2_with fail
 refine (ragg_of_any 3 A c s.vals _ hl ?hr).mono ?_
 case hr => exact hr.gr (by repeat (first | exact Gr.refl _ | refine Gr.alloc ?_ _ | refine Gr.drew ?_ | refine Gr.setCell ?_ (by first | (simp; done) | (simp; omega) | omega) _ | refine Gr.trans ?_ (by assumption)))
 rintro e w1 ⟨rfl, hg⟩
 have z1 := hg.size
 simp at z1
 have z0 : w.heap.size < w1.heap.size := by omega
 have z2 : w.heap.size + 1 < w1.heap.size := by omega
 obtain ⟨hc, hf⟩ := hg.cells
 have q0 : w1.cell? ⟨w.heap.size + 1, 0, none⟩ = some (.bool false) := by go_simp
 have q1 : w1.cell? ⟨w.heap.size + 1, 1, none⟩ = some (.int .i64 0) := by go_simp
 have f0 : w1.frozen? ⟨w.heap.size + 1, 0, none⟩ = false := by go_simp
 have f1 : w1.frozen? ⟨w.heap.size + 1, 1, none⟩ = false := by go_simp
 have gw : Gr w w1 := (by repeat (first | exact Gr.refl _ | refine Gr.alloc ?_ _ | refine Gr.drew ?_ | refine Gr.setCell ?_ (by first | (simp; done) | (simp; omega) | omega) _ | refine Gr.trans ?_ (by assumption)))
 clear hc hf hg
 go_wp2
 exact bodyPost_ret (v := .agg #[.bool (aggV 3 s.vals).ok, .int .i64 (aggV 3 s.vals).n]) (by simp [results, Tryz.results19, go_sem, *]) rfl ⟨rfl, (by repeat (first | exact Gr.refl _ | refine Gr.alloc ?_ _ | refine Gr.drew ?_ | refine Gr.setCell ?_ (by first | (simp; done) | (simp; omega) | omega) _ | refine Gr.trans ?_ (by assumption)))⟩
set_option maxRecDepth 100000 in
set_option maxHeartbeats 1600000 in
theorem rfof_16 (nm : ByteArray) (s : Sr) (A : Option Addr) (c : Nat) (w : World) (hl : s.vals.length ≤ 1000000) (hr : Rv w A s.vals) (e0 : (nm.toList == [115, 111, 114, 116, 66, 121, 77, 97, 120, 105, 109, 97]) = false) (e1 : (nm.toList == [104, 105, 103, 104, 101, 115, 116, 77, 97, 120]) = false) (e2 : (nm.toList == [109, 97, 120, 105, 109, 117, 109, 65, 98, 111, 118, 101]) = false) (e3 : (nm.toList == [109, 97, 120, 105, 109, 117, 109, 66, 101, 108, 111, 119]) = false) (e4 : (nm.toList == [115, 111, 114, 116, 66, 121, 84, 111, 116, 97, 108]) = false) (e5 : (nm.toList == [115, 111, 114, 116, 66, 121, 77, 105, 110, 105, 109, 97]) = false) (e6 : (nm.toList == [109, 105, 110, 105, 109, 117, 109, 65, 98, 111, 118, 101]) = false) (e7 : (nm.toList == [109, 105, 110, 105, 109, 117, 109, 66, 101, 108, 111, 119]) = false) (e8 : (nm.toList == [104, 105, 103, 104, 101, 115, 116, 65, 118, 101, 114, 97, 103, 101]) = false) (e9 : (nm.toList == [108, 111, 119, 101, 115, 116, 65, 118, 101, 114, 97, 103, 101]) = false) (e10 : (nm.toList == [97, 118, 101, 114, 97, 103, 101, 65, 98, 111, 118, 101]) = false) (e11 : (nm.toList == [97, 118, 101, 114, 97, 103, 101, 66, 101, 108, 111, 119]) = false) (e12 : (nm.toList == [104, 105, 103, 104, 101, 115, 116, 67, 117, 114, 114, 101, 110, 116]) = false) (e13 : (nm.toList == [108, 111, 119, 101, 115, 116, 67, 117, 114, 114, 101, 110, 116]) = false) (e14 : (nm.toList == [99, 117, 114, 114, 101, 110, 116, 65, 98, 111, 118, 101]) = false) (e15 : (nm.toList == [99, 117, 114, 114, 101, 110, 116, 66, 101, 108, 111, 119]) = false) (e16 : (nm.toList == [109, 111, 115, 116, 68, 101, 118, 105, 97, 110, 116]) = true) :
  Calls Tryz.prog 19 #[.string nm, aggSr s A c] w (RetVl (devV s.vals) w) := by
 unfold aggSr
 go_enter Tryz.func19, Tryz.ntmps19
 go_wp2_with fail
 refine (rdev_any A c s.vals _ hl ?hr).mono ?_
 case hr => exact hr.gr (by repeat (first | exact Gr.refl _ | refine Gr.alloc ?_ _ | refine Gr.drew ?_ | refine Gr.setCell ?_ (by first | (simp; done) | (simp; omega) | omega) _ | refine Gr.trans ?_ (by assumption)))
 rintro e w1 ⟨rfl, hg⟩
 have z1 := hg.size
 simp at z1
 have z0 : w.heap.size < w1.heap.size := by omega
 have z2 : w.heap.size + 1 < w1.heap.size := by omega
 obtain ⟨hc, hf⟩ := hg.cells
 have q0 : w1.cell? ⟨w.heap.size + 1, 0, none⟩ = some (.bool false) := by go_simp
 have q1 : w1.cell? ⟨w.heap.size + 1, 1, none⟩ = some (.int .i64 0) := by go_simp
 have f0 : w1.frozen? ⟨w.heap.size + 1, 0, none⟩ = false := by go_simp
 have f1 : w1.frozen? ⟨w.heap.size + 1, 1, none⟩ = false := by go_simp
 have gw : Gr w w1 := (by repeat (first | exact Gr.refl _ | refine Gr.alloc ?_ _ | refine Gr.drew ?_ | refine Gr.setCell ?_ (by first | (simp; done) | (simp; omega) | omega) _ | refine Gr.trans ?_ (by assumption)))
 clear hc hf hg
 go_wp2
 exact bodyPost_ret (v := .agg #[.bool (devV s.vals).ok, .int .i64 (devV s.vals).n]) (by simp [results, Tryz.results19, go_sem, *]) rfl ⟨rfl, (by repeat (first | exact Gr.refl _ | refine Gr.alloc ?_ _ | refine Gr.drew ?_ | refine Gr.setCell ?_ (by first | (simp; done) | (simp; omega) | omega) _ | refine Gr.trans ?_ (by assumption)))⟩
set_option maxRecDepth 100000 in
set_option maxHeartbeats 1600000 in
theorem rfof_no (nm : ByteArray) (s : Sr) (A : Option Addr) (c : Nat) (w : World) (e0 : (nm.toList == [115, 111, 114, 116, 66, 121, 77, 97, 120, 105, 109, 97]) = false) (e1 : (nm.toList == [104, 105, 103, 104, 101, 115, 116, 77, 97, 120]) = false) (e2 : (nm.toList == [109, 97, 120, 105, 109, 117, 109, 65, 98, 111, 118, 101]) = false) (e3 : (nm.toList == [109, 97, 120, 105, 109, 117, 109, 66, 101, 108, 111, 119]) = false) (e4 : (nm.toList == [115, 111, 114, 116, 66, 121, 84, 111, 116, 97, 108]) = false) (e5 : (nm.toList == [115, 111, 114, 116, 66, 121, 77, 105, 110, 105, 109, 97]) = false) (e6 : (nm.toList == [109, 105, 110, 105, 109, 117, 109, 65, 98, 111, 118, 101]) = false) (e7 : (nm.toList == [109, 105, 110, 105, 109, 117, 109, 66, 101, 108, 111, 119]) = false) (e8 : (nm.toList == [104, 105, 103, 104, 101, 115, 116, 65, 118, 101, 114, 97, 103, 101]) = false) (e9 : (nm.toList == [108, 111, 119, 101, 115, 116, 65, 118, 101, 114, 97, 103, 101]) = false) (e10 : (nm.toList == [97, 118, 101, 114, 97, 103, 101, 65, 98, 111, 118, 101]) = false) (e11 : (nm.toList == [97, 118, 101, 114, 97, 103, 101, 66, 101, 108, 111, 119]) = false) (e12 : (nm.toList == [104, 105, 103, 104, 101, 115, 116, 67, 117, 114, 114, 101, 110, 116]) = false) (e13 : (nm.toList == [108, 111, 119, 101, 115, 116, 67, 117, 114, 114, 101, 110, 116]) = false) (e14 : (nm.toList == [99, 117, 114, 114, 101, 110, 116, 65, 98, 111, 118, 101]) = false) (e15 : (nm.toList == [99, 117, 114, 114, 101, 110, 116, 66, 101, 108, 111, 119]) = false) (e16 : (nm.toList == [109, 111, 115, 116, 68, 101, 118, 105, 97, 110, 116]) = false) :
  Calls Tryz.prog 19 #[.string nm, aggSr s A c] w (RetVl ⟨false, 0⟩ w) := by
 unfold aggSr
 go_enter Tryz.func19, Tryz.ntmps19
 go_wp2
 exact bodyPost_ret (v := .agg #[.bool false, .int .i64 0]) (by simp [results, Tryz.results19, go_sem, *]) rfl ⟨rfl, (by repeat (first | exact Gr.refl _ | refine Gr.alloc ?_ _ | refine Gr.drew ?_ | refine Gr.setCell ?_ (by first | (simp; done) | (simp; omega) | omega) _ | refine Gr.trans ?_ (by assumption)))⟩
theorem rfof_any (nm : ByteArray) (s : Sr) (A : Option Addr) (c : Nat) (w : World) (hl : s.vals.length ≤ 1000000) (hr : Rv w A s.vals) :
  Calls Tryz.prog 19 #[.string nm, aggSr s A c] w (RetVl (ofR (rowF nm).by_ s.vals) w) := by
 rcases name_cases nm with ⟨hn, hne⟩ | ⟨r, hr0, hnm, hn⟩
 ·
  have e : ofR (rowF nm).by_ s.vals = ⟨false, 0⟩ := by unfold rowF; rw [hn]; exact aggV_none (.inl (by decide)) _
  rw [e]
  exact rfof_no nm s A c w (nm_not hne R18_mem rfl) (nm_not hne R8_mem rfl) (nm_not hne R12_mem rfl) (nm_not hne R13_mem rfl) (nm_not hne R21_mem rfl) (nm_not hne R19_mem rfl) (nm_not hne R14_mem rfl) (nm_not hne R15_mem rfl) (nm_not hne R6_mem rfl) (nm_not hne R10_mem rfl) (nm_not hne R0_mem rfl) (nm_not hne R1_mem rfl) (nm_not hne R7_mem rfl) (nm_not hne R11_mem rfl) (nm_not hne R2_mem rfl) (nm_not hne R3_mem rfl) (nm_not hne R16_mem rfl)
 ·
  have e : rowF nm = r := by unfold rowF; rw [hn]; rfl
  rw [e]
  clear e hn
  revert hnm
  refine rows_split (P := fun r => nm = r.nm → Calls Tryz.prog 19 #[.string nm, aggSr s A c] w (RetVl (ofR r.by_ s.vals) w)) ?_ ?_ ?_ ?_ ?_ ?_ ?_ ?_ ?_ ?_ ?_ ?_ ?_ ?_ ?_ ?_ ?_ ?_ ?_ ?_ ?_ ?_ r hr0
  ·
   intro hnm
   exact rfof_10 nm s A c w hl hr (nm_is hnm rfl) (nm_is hnm rfl) (nm_is hnm rfl) (nm_is hnm rfl) (nm_is hnm rfl) (nm_is hnm rfl) (nm_is hnm rfl) (nm_is hnm rfl) (nm_is hnm rfl) (nm_is hnm rfl) (nm_is hnm rfl)
  ·
   intro hnm
   exact rfof_11 nm s A c w hl hr (nm_is hnm rfl) (nm_is hnm rfl) (nm_is hnm rfl) (nm_is hnm rfl) (nm_is hnm rfl) (nm_is hnm rfl) (nm_is hnm rfl) (nm_is hnm rfl) (nm_is hnm rfl) (nm_is hnm rfl) (nm_is hnm rfl) (nm_is hnm rfl)
  ·
   intro hnm
   exact rfof_14 nm s A c w hl hr (nm_is hnm rfl) (nm_is hnm rfl) (nm_is hnm rfl) (nm_is hnm rfl) (nm_is hnm rfl) (nm_is hnm rfl) (nm_is hnm rfl) (nm_is hnm rfl) (nm_is hnm rfl) (nm_is hnm rfl) (nm_is hnm rfl) (nm_is hnm rfl) (nm_is hnm rfl) (nm_is hnm rfl) (nm_is hnm rfl)
  ·
   intro hnm
   exact rfof_15 nm s A c w hl hr (nm_is hnm rfl) (nm_is hnm rfl) (nm_is hnm rfl) (nm_is hnm rfl) (nm_is hnm rfl) (nm_is hnm rfl) (nm_is hnm rfl) (nm_is hnm rfl) (nm_is hnm rfl) (nm_is hnm rfl) (nm_is hnm rfl) (nm_is hnm rfl) (nm_is hnm rfl) (nm_is hnm rfl) (nm_is hnm rfl) (nm_is hnm rfl)
  ·
   intro hnm
   rw [show ofR R4.by_ s.vals = ⟨false, 0⟩ from aggV_none (.inl (by decide)) _]
   exact rfof_no nm s A c w (nm_is hnm rfl) (nm_is hnm rfl) (nm_is hnm rfl) (nm_is hnm rfl) (nm_is hnm rfl) (nm_is hnm rfl) (nm_is hnm rfl) (nm_is hnm rfl) (nm_is hnm rfl) (nm_is hnm rfl) (nm_is hnm rfl) (nm_is hnm rfl) (nm_is hnm rfl) (nm_is hnm rfl) (nm_is hnm rfl) (nm_is hnm rfl) (nm_is hnm rfl)
  ·
   intro hnm
   rw [show ofR R5.by_ s.vals = ⟨false, 0⟩ from aggV_none (.inl (by decide)) _]
   exact rfof_no nm s A c w (nm_is hnm rfl) (nm_is hnm rfl) (nm_is hnm rfl) (nm_is hnm rfl) (nm_is hnm rfl) (nm_is hnm rfl) (nm_is hnm rfl) (nm_is hnm rfl) (nm_is hnm rfl) (nm_is hnm rfl) (nm_is hnm rfl) (nm_is hnm rfl) (nm_is hnm rfl) (nm_is hnm rfl) (nm_is hnm rfl) (nm_is hnm rfl) (nm_is hnm rfl)
  ·
   intro hnm
   exact rfof_8 nm s A c w hl hr (nm_is hnm rfl) (nm_is hnm rfl) (nm_is hnm rfl) (nm_is hnm rfl) (nm_is hnm rfl) (nm_is hnm rfl) (nm_is hnm rfl) (nm_is hnm rfl) (nm_is hnm rfl)
  ·
   intro hnm
   exact rfof_12 nm s A c w hl hr (nm_is hnm rfl) (nm_is hnm rfl) (nm_is hnm rfl) (nm_is hnm rfl) (nm_is hnm rfl) (nm_is hnm rfl) (nm_is hnm rfl) (nm_is hnm rfl) (nm_is hnm rfl) (nm_is hnm rfl) (nm_is hnm rfl) (nm_is hnm rfl) (nm_is hnm rfl)
  ·
   intro hnm
   exact rfof_1 nm s A c w hl hr (nm_is hnm rfl) (nm_is hnm rfl)
  ·
   intro hnm
   rw [show ofR R9.by_ s.vals = ⟨false, 0⟩ from aggV_none (.inl (by decide)) _]
   exact rfof_no nm s A c w (nm_is hnm rfl) (nm_is hnm rfl) (nm_is hnm rfl) (nm_is hnm rfl) (nm_is hnm rfl) (nm_is hnm rfl) (nm_is hnm rfl) (nm_is hnm rfl) (nm_is hnm rfl) (nm_is hnm rfl) (nm_is hnm rfl) (nm_is hnm rfl) (nm_is hnm rfl) (nm_is hnm rfl) (nm_is hnm rfl) (nm_is hnm rfl) (nm_is hnm rfl)
  ·
   intro hnm
   exact rfof_9 nm s A c w hl hr (nm_is hnm rfl) (nm_is hnm rfl) (nm_is hnm rfl) (nm_is hnm rfl) (nm_is hnm rfl) (nm_is hnm rfl) (nm_is hnm rfl) (nm_is hnm rfl) (nm_is hnm rfl) (nm_is hnm rfl)
  ·
   intro hnm
   exact rfof_13 nm s A c w hl hr (nm_is hnm rfl) (nm_is hnm rfl) (nm_is hnm rfl) (nm_is hnm rfl) (nm_is hnm rfl) (nm_is hnm rfl) (nm_is hnm rfl) (nm_is hnm rfl) (nm_is hnm rfl) (nm_is hnm rfl) (nm_is hnm rfl) (nm_is hnm rfl) (nm_is hnm rfl) (nm_is hnm rfl)
  ·
   intro hnm
   exact rfof_2 nm s A c w hl hr (nm_is hnm rfl) (nm_is hnm rfl) (nm_is hnm rfl)
  ·
   intro hnm
   exact rfof_3 nm s A c w hl hr (nm_is hnm rfl) (nm_is hnm rfl) (nm_is hnm rfl) (nm_is hnm rfl)
  ·
   intro hnm
   exact rfof_6 nm s A c w hl hr (nm_is hnm rfl) (nm_is hnm rfl) (nm_is hnm rfl) (nm_is hnm rfl) (nm_is hnm rfl) (nm_is hnm rfl) (nm_is hnm rfl)
  ·
   intro hnm
   exact rfof_7 nm s A c w hl hr (nm_is hnm rfl) (nm_is hnm rfl) (nm_is hnm rfl) (nm_is hnm rfl) (nm_is hnm rfl) (nm_is hnm rfl) (nm_is hnm rfl) (nm_is hnm rfl)
  ·
   intro hnm
   exact rfof_16 nm s A c w hl hr (nm_is hnm rfl) (nm_is hnm rfl) (nm_is hnm rfl) (nm_is hnm rfl) (nm_is hnm rfl) (nm_is hnm rfl) (nm_is hnm rfl) (nm_is hnm rfl) (nm_is hnm rfl) (nm_is hnm rfl) (nm_is hnm rfl) (nm_is hnm rfl) (nm_is hnm rfl) (nm_is hnm rfl) (nm_is hnm rfl) (nm_is hnm rfl) (nm_is hnm rfl)
  ·
   intro hnm
   rw [show ofR R17.by_ s.vals = ⟨false, 0⟩ from aggV_none (.inl (by decide)) _]
   exact rfof_no nm s A c w (nm_is hnm rfl) (nm_is hnm rfl) (nm_is hnm rfl) (nm_is hnm rfl) (nm_is hnm rfl) (nm_is hnm rfl) (nm_is hnm rfl) (nm_is hnm rfl) (nm_is hnm rfl) (nm_is hnm rfl) (nm_is hnm rfl) (nm_is hnm rfl) (nm_is hnm rfl) (nm_is hnm rfl) (nm_is hnm rfl) (nm_is hnm rfl) (nm_is hnm rfl)
  ·
   intro hnm
   exact rfof_0 nm s A c w hl hr (nm_is hnm rfl)
  ·
   intro hnm
   exact rfof_5 nm s A c w hl hr (nm_is hnm rfl) (nm_is hnm rfl) (nm_is hnm rfl) (nm_is hnm rfl) (nm_is hnm rfl) (nm_is hnm rfl)
  ·
   intro hnm
   rw [show ofR R20.by_ s.vals = ⟨false, 0⟩ from aggV_none (.inl (by decide)) _]
   exact rfof_no nm s A c w (nm_is hnm rfl) (nm_is hnm rfl) (nm_is hnm rfl) (nm_is hnm rfl) (nm_is hnm rfl) (nm_is hnm rfl) (nm_is hnm rfl) (nm_is hnm rfl) (nm_is hnm rfl) (nm_is hnm rfl) (nm_is hnm rfl) (nm_is hnm rfl) (nm_is hnm rfl) (nm_is hnm rfl) (nm_is hnm rfl) (nm_is hnm rfl) (nm_is hnm rfl)
  ·
   intro hnm
   exact rfof_4 nm s A c w hl hr (nm_is hnm rfl) (nm_is hnm rfl) (nm_is hnm rfl) (nm_is hnm rfl) (nm_is hnm rfl)
end Go.Proofs.YtbdichmkgcngbaaGreat
