/- What the code of Go functions comes to over abstract stores, piece by piece; each equation by the kernel. Printed by a program of this session. Files that went and came elsewhere: what the document's side answers. -/
import Derived.Test.YtimmjplgogpglaaDoorSvT
import Derived.KernelRfl
import Derived.Test.YtimmjplgogpglaaDoorSvRs
import Derived.Test.YtimmjplgogpglaaDoorFdK
set_option linter.unusedVariables false
set_option maxRecDepth 100000
set_option linter.unusedSimpArgs false
section
namespace Go.Sv
open Go Go.Proofs
namespace selvageref25_Renames
def lvs : List (List Nat) := [[0, 1, 2], [0, 1, 2], [0, 1, 2], [0, 1, 2], [0, 1, 2], [0, 1, 2, 27], [], [], [6, 7], [0, 1, 2], [0, 1, 2], [0, 1, 2], [0, 1, 2, 8], [0, 1, 2, 8], [0, 1, 2, 8], [0, 1, 2, 8], [0, 1, 2, 8], [0, 1, 2, 8], [0, 1, 2, 8], [0, 1, 2, 8, 9], [0, 1, 2, 8, 9], [0, 1, 2, 8, 9], [0, 1, 2, 8, 9], [0, 1, 2, 8, 9], [0, 1, 2, 8, 9, 37], [0, 1, 2, 8, 9], [0, 1, 2], [0, 1, 2, 8, 9], [0, 1, 2, 8, 9], [0, 1, 2, 8, 9], [0, 1, 2, 8, 9], [0, 1, 2, 8, 9, 54], [], [], [6, 7], [0, 1, 2, 8, 9], [0, 1, 2, 8, 9], [0, 1, 2], [0, 1, 2], [0, 1, 2, 10], [0, 1, 2, 10], [0, 1, 2, 10, 11], [0, 1, 2, 10, 11], [0, 1, 2, 10, 11, 12], [0, 1, 2, 10, 11, 12], [0, 1, 2, 10, 11, 12], [0, 1, 2, 10, 11, 12], [0, 1, 2, 10, 11, 12], [0, 1, 2, 10, 11, 12], [0, 1, 2, 10, 11, 12, 13, 14, 15], [0, 1, 2, 10, 11, 12, 13, 14, 15], [0, 1, 2, 10, 11, 12, 13, 14, 15], [0, 1, 2, 10, 11, 12, 13, 14, 15, 16], [0, 1, 2, 10, 11, 12, 13, 14, 15, 16], [0, 1, 2, 10, 11, 12, 13, 14, 15, 16], [0, 1, 2, 10, 11, 12, 13, 14, 15, 16], [0, 1, 2, 10, 11, 12, 13, 14, 15, 16], [0, 1, 2, 10, 11, 12, 13, 14, 15, 16, 67], [0, 1, 2, 10, 11, 12, 13, 14, 15, 16], [0, 1, 2, 10, 11, 12, 13, 14, 15], [0, 1, 2, 10, 11, 12, 13, 14, 15, 16], [0, 1, 2, 10, 11, 12, 13, 14, 15, 16], [0, 1, 2, 10, 11, 12, 13, 14, 15, 16], [0, 1, 2, 10, 11, 12, 13, 14, 15, 16], [0, 1, 2, 10, 11, 12, 13, 14, 15, 16, 17], [0, 1, 2, 10, 11, 12, 13, 14, 15, 16, 17], [0, 1, 2, 10, 11, 12, 13, 14, 15, 16, 17], [0, 1, 2, 10, 11, 12, 13, 14, 15, 16, 17], [0, 1, 2, 10, 11, 12, 13, 14, 15, 16, 17], [0, 1, 2, 10, 11, 12, 13, 14, 15, 16, 17, 73], [0, 1, 2, 10, 11, 12, 13, 14, 15, 16, 17], [0, 1, 2, 10, 11, 12, 13, 14, 15, 16], [0, 1, 2, 10, 11, 12, 13, 14, 15, 16, 17], [0, 1, 2, 10, 11, 12, 13, 14, 15, 16, 17], [0, 1, 2, 10, 11, 12, 13, 14, 15, 16, 17], [0, 1, 2, 10, 11, 12, 13, 14, 15, 16, 17], [0, 1, 2, 10, 11, 12, 13, 14, 15, 16, 17], [0, 1, 2, 10, 11, 12, 13, 14, 15, 16, 17, 102], [0, 1, 2, 10, 11, 12, 13, 14, 15, 16, 17], [0, 1, 2, 10, 11, 12, 13, 14, 15, 16, 17], [0, 1, 2, 10, 11, 12, 13, 14, 15, 16, 17], [0, 1, 2, 10, 11, 12, 13, 14, 15, 16, 17], [0, 1, 2, 10, 11, 12, 13, 14, 15, 16, 17, 18], [0, 1, 2, 10, 11, 12, 13, 14, 15, 16, 17, 18], [0, 1, 2, 10, 11, 12, 13, 14, 15, 16, 17, 18, 119], [0, 1, 2, 10, 11, 12, 16, 17, 18], [0, 1, 2, 10, 11, 12, 13, 14, 15, 16, 17], [0, 1, 2, 10, 11, 12, 13, 14, 15, 16, 17], [0, 1, 2, 10, 11, 12, 13, 14, 15, 16], [0, 1, 2, 10, 11, 12, 13, 14, 15], [0, 1, 2, 10, 11, 12, 13, 14, 15], [0, 1, 2, 10, 11, 12, 13, 14, 15], [0, 1, 2, 10, 11, 12, 13, 14, 15, 125], [0, 1, 10, 11], [0, 1, 2, 10, 11, 12, 13, 14, 15], [0, 1, 2, 10, 11, 12, 13, 14, 15], [0, 1, 2, 10, 11, 12, 13, 14, 15], [0, 1, 2, 10, 11, 12, 13, 14, 15], [0, 1, 2, 10, 11, 12, 13, 14, 15], [0, 1, 2, 10, 11, 12, 15], [0, 1, 10, 11], [0, 1, 10, 11], [0, 1, 10, 11, 20], [0, 1, 10, 11, 20], [0, 1, 10, 11, 20], [0, 1, 10, 11, 20, 21], [0, 1, 10, 11, 20, 21], [0, 1, 10, 11, 20, 21], [0, 1, 10, 11, 20, 21], [0, 1, 10, 11, 20, 21], [0, 1, 10, 11, 20, 21, 141], [0, 1, 10, 11, 20, 21], [20], [0, 1, 10, 11, 20, 21], [0, 1, 10, 11, 20, 21], [0, 1, 10, 11, 20, 21], [0, 1, 10, 11, 20, 21], [0, 1, 10, 11, 20, 21, 148], [0, 1, 10, 11, 20, 21], [0, 1, 10, 11, 20, 21], [0, 1, 10, 11, 20, 21], [20], [20], [6, 7]]
def lv : Nat → List Nat := lvOf lvs
noncomputable def code : Code := bodyOf Tryd.f10
noncomputable def fe : FE := ⟨Tryd.f10, code, lv⟩
def cuts : List Nat := [5, 21, 31, 37, 46, 54, 66, 77, 87, 88, 89, 100, 107, 120, 121]
abbrev X (w0 : Base) (n : Nat) : XT := xr (cx w0) 172 lv n
theorem ok (w0 : Base) : FOK (cx w0) selvageref25_Renames.id fe := ⟨Tryd.func10, by kernel_rfl, by kernel_rfl⟩
section
variable (Z : XT) (w0 : Base) (n : Nat) (R : RT) (σ : Store) (gone come : AV) (least : Int) (t27 : Bool) (all to percent used : AV) (best from_ at_ : Int) (out : AV) (i : Int) (t54 : Bool) (k : Int) (t102 : Bool)
def q3 : QT := thenQ (fun env σ => pcodeX (cx w0) 172 lv n cuts Z (cAt code 10) 10 (prune (lv 10) env) σ (finQ (cx w0) Tryd.f10 n R)) (finQ (cx w0) Tryd.f10 n R)
def q17 : QT := thenQ (fun env σ => Z (cAt code 37) 37 (prune (lv 37) env) σ (finQ (cx w0) Tryd.f10 n R)) (finQ (cx w0) Tryd.f10 n R)
def q20 : QT := blockQ 0 (q17 Z w0 n R)
def q21 : QT := thenQ (fun env σ => Z (cAt code 20) 20 (prune (lv 20) env) σ (q20 Z w0 n R)) (q20 Z w0 n R)
def q28 : QT := thenQ (fun env σ => pcodeX (cx w0) 172 lv n cuts Z (cAt code 36) 36 (prune (lv 36) env) σ (q21 Z w0 n R)) (q21 Z w0 n R)
def q29 : QT := blockQ 1 (q28 Z w0 n R)
def q44 : QT := thenQ (fun env σ => Z (cAt code 100) 100 (prune (lv 100) env) σ (finQ (cx w0) Tryd.f10 n R)) (finQ (cx w0) Tryd.f10 n R)
def q45 : QT := blockQ 2 (q44 Z w0 n R)
def q46 : QT := thenQ (fun env σ => Z (cAt code 45) 45 (prune (lv 45) env) σ (q45 Z w0 n R)) (q45 Z w0 n R)
def q47 : QT := blockQ 3 (q46 Z w0 n R)
def q50 : QT := thenQ (fun env σ => Z (cAt code 89) 89 (prune (lv 89) env) σ (q47 Z w0 n R)) (q47 Z w0 n R)
def q53 : QT := blockQ 4 (q50 Z w0 n R)
def q54 : QT := thenQ (fun env σ => Z (cAt code 53) 53 (prune (lv 53) env) σ (q53 Z w0 n R)) (q53 Z w0 n R)
def q61 : QT := thenQ (fun env σ => Z (cAt code 88) 88 (prune (lv 88) env) σ (q54 Z w0 n R)) (q54 Z w0 n R)
def q62 : QT := blockQ 5 (q61 Z w0 n R)
def q65 : QT := blockQ 6 (q62 Z w0 n R)
def q66 : QT := thenQ (fun env σ => Z (cAt code 65) 65 (prune (lv 65) env) σ (q65 Z w0 n R)) (q65 Z w0 n R)
def q73 : QT := thenQ (fun env σ => Z (cAt code 87) 87 (prune (lv 87) env) σ (q66 Z w0 n R)) (q66 Z w0 n R)
def q74 : QT := blockQ 7 (q73 Z w0 n R)
def q75 : QT := thenQ (fun env σ => pcodeX (cx w0) 172 lv n cuts Z (cAt code 80) 80 (prune (lv 80) env) σ (q74 Z w0 n R)) (q74 Z w0 n R)
def q103 : QT := thenQ (fun env σ => Z (cAt code 121) 121 (prune (lv 121) env) σ (finQ (cx w0) Tryd.f10 n R)) (finQ (cx w0) Tryd.f10 n R)
def q106 : QT := blockQ 8 (q103 Z w0 n R)
def q107 : QT := thenQ (fun env σ => Z (cAt code 106) 106 (prune (lv 106) env) σ (q106 Z w0 n R)) (q106 Z w0 n R)
def n5 : Prop :=
  Z (cAt code 5) 5 [(0, gone), (1, come), (2, (.pv (.int .i64 least))), (27, (.pv (.bool t27)))] σ (q3 Z w0 n R)
def b5 : Prop :=
  pcodeX (cx w0) 172 lv n cuts Z (cAt code 5) 5 [(0, gone), (1, come), (2, (.pv (.int .i64 least))), (27, (.pv (.bool t27)))] σ (q3 Z w0 n R)
def n20 : Prop :=
  Z (cAt code 20) 20 [(0, gone), (1, come), (2, (.pv (.int .i64 least))), (8, all), (9, (.pv (.int .i64 i)))] σ (q20 Z w0 n R)
def b21 : Prop :=
  pcodeX (cx w0) 172 lv n cuts Z (cAt code 21) 21 [(0, gone), (1, come), (2, (.pv (.int .i64 least))), (8, all), (9, (.pv (.int .i64 i)))] σ (q21 Z w0 n R)
def n31 : Prop :=
  Z (cAt code 31) 31 [(0, gone), (1, come), (2, (.pv (.int .i64 least))), (8, all), (9, (.pv (.int .i64 i))), (54, (.pv (.bool t54)))] σ (q29 Z w0 n R)
def b31 : Prop :=
  pcodeX (cx w0) 172 lv n cuts Z (cAt code 31) 31 [(0, gone), (1, come), (2, (.pv (.int .i64 least))), (8, all), (9, (.pv (.int .i64 i))), (54, (.pv (.bool t54)))] σ (q29 Z w0 n R)
def n37 : Prop :=
  Z (cAt code 37) 37 [(0, gone), (1, come), (2, (.pv (.int .i64 least)))] σ (finQ (cx w0) Tryd.f10 n R)
def b37 : Prop :=
  pcodeX (cx w0) 172 lv n cuts Z (cAt code 37) 37 [(0, gone), (1, come), (2, (.pv (.int .i64 least)))] σ (finQ (cx w0) Tryd.f10 n R)
def n45 : Prop :=
  Z (cAt code 45) 45 [(0, gone), (1, come), (2, (.pv (.int .i64 least))), (10, to), (11, percent), (12, used)] σ (q45 Z w0 n R)
def b46 : Prop :=
  pcodeX (cx w0) 172 lv n cuts Z (cAt code 46) 46 [(0, gone), (1, come), (2, (.pv (.int .i64 least))), (10, to), (11, percent), (12, used)] σ (q46 Z w0 n R)
def n53 : Prop :=
  Z (cAt code 53) 53 [(0, gone), (1, come), (2, (.pv (.int .i64 least))), (10, to), (11, percent), (12, used), (13, (.pv (.int .i64 best))), (14, (.pv (.int .i64 from_))), (15, (.pv (.int .i64 at_))), (16, (.pv (.int .i64 i)))] σ (q53 Z w0 n R)
def b54 : Prop :=
  pcodeX (cx w0) 172 lv n cuts Z (cAt code 54) 54 [(0, gone), (1, come), (2, (.pv (.int .i64 least))), (10, to), (11, percent), (12, used), (13, (.pv (.int .i64 best))), (14, (.pv (.int .i64 from_))), (15, (.pv (.int .i64 at_))), (16, (.pv (.int .i64 i)))] σ (q54 Z w0 n R)
def n65 : Prop :=
  Z (cAt code 65) 65 [(0, gone), (1, come), (2, (.pv (.int .i64 least))), (10, to), (11, percent), (12, used), (13, (.pv (.int .i64 best))), (14, (.pv (.int .i64 from_))), (15, (.pv (.int .i64 at_))), (16, (.pv (.int .i64 i))), (17, (.pv (.int .i64 k)))] σ (q65 Z w0 n R)
def b66 : Prop :=
  pcodeX (cx w0) 172 lv n cuts Z (cAt code 66) 66 [(0, gone), (1, come), (2, (.pv (.int .i64 least))), (10, to), (11, percent), (12, used), (13, (.pv (.int .i64 best))), (14, (.pv (.int .i64 from_))), (15, (.pv (.int .i64 at_))), (16, (.pv (.int .i64 i))), (17, (.pv (.int .i64 k)))] σ (q66 Z w0 n R)
def n77 : Prop :=
  Z (cAt code 77) 77 [(0, gone), (1, come), (2, (.pv (.int .i64 least))), (10, to), (11, percent), (12, used), (13, (.pv (.int .i64 best))), (14, (.pv (.int .i64 from_))), (15, (.pv (.int .i64 at_))), (16, (.pv (.int .i64 i))), (17, (.pv (.int .i64 k))), (102, (.pv (.bool t102)))] σ (q75 Z w0 n R)
def b77 : Prop :=
  pcodeX (cx w0) 172 lv n cuts Z (cAt code 77) 77 [(0, gone), (1, come), (2, (.pv (.int .i64 least))), (10, to), (11, percent), (12, used), (13, (.pv (.int .i64 best))), (14, (.pv (.int .i64 from_))), (15, (.pv (.int .i64 at_))), (16, (.pv (.int .i64 i))), (17, (.pv (.int .i64 k))), (102, (.pv (.bool t102)))] σ (q75 Z w0 n R)
def n87 : Prop :=
  Z (cAt code 87) 87 [(0, gone), (1, come), (2, (.pv (.int .i64 least))), (10, to), (11, percent), (12, used), (13, (.pv (.int .i64 best))), (14, (.pv (.int .i64 from_))), (15, (.pv (.int .i64 at_))), (16, (.pv (.int .i64 i))), (17, (.pv (.int .i64 k)))] σ (q66 Z w0 n R)
def b87 : Prop :=
  pcodeX (cx w0) 172 lv n cuts Z (cAt code 87) 87 [(0, gone), (1, come), (2, (.pv (.int .i64 least))), (10, to), (11, percent), (12, used), (13, (.pv (.int .i64 best))), (14, (.pv (.int .i64 from_))), (15, (.pv (.int .i64 at_))), (16, (.pv (.int .i64 i))), (17, (.pv (.int .i64 k)))] σ (q66 Z w0 n R)
def n88 : Prop :=
  Z (cAt code 88) 88 [(0, gone), (1, come), (2, (.pv (.int .i64 least))), (10, to), (11, percent), (12, used), (13, (.pv (.int .i64 best))), (14, (.pv (.int .i64 from_))), (15, (.pv (.int .i64 at_))), (16, (.pv (.int .i64 i)))] σ (q54 Z w0 n R)
def b88 : Prop :=
  pcodeX (cx w0) 172 lv n cuts Z (cAt code 88) 88 [(0, gone), (1, come), (2, (.pv (.int .i64 least))), (10, to), (11, percent), (12, used), (13, (.pv (.int .i64 best))), (14, (.pv (.int .i64 from_))), (15, (.pv (.int .i64 at_))), (16, (.pv (.int .i64 i)))] σ (q54 Z w0 n R)
def n89 : Prop :=
  Z (cAt code 89) 89 [(0, gone), (1, come), (2, (.pv (.int .i64 least))), (10, to), (11, percent), (12, used), (13, (.pv (.int .i64 best))), (14, (.pv (.int .i64 from_))), (15, (.pv (.int .i64 at_)))] σ (q47 Z w0 n R)
def b89 : Prop :=
  pcodeX (cx w0) 172 lv n cuts Z (cAt code 89) 89 [(0, gone), (1, come), (2, (.pv (.int .i64 least))), (10, to), (11, percent), (12, used), (13, (.pv (.int .i64 best))), (14, (.pv (.int .i64 from_))), (15, (.pv (.int .i64 at_)))] σ (q47 Z w0 n R)
def n100 : Prop :=
  Z (cAt code 100) 100 [(0, gone), (1, come), (10, to), (11, percent)] σ (finQ (cx w0) Tryd.f10 n R)
def b100 : Prop :=
  pcodeX (cx w0) 172 lv n cuts Z (cAt code 100) 100 [(0, gone), (1, come), (10, to), (11, percent)] σ (finQ (cx w0) Tryd.f10 n R)
def n106 : Prop :=
  Z (cAt code 106) 106 [(0, gone), (1, come), (10, to), (11, percent), (20, out), (21, (.pv (.int .i64 i)))] σ (q106 Z w0 n R)
def b107 : Prop :=
  pcodeX (cx w0) 172 lv n cuts Z (cAt code 107) 107 [(0, gone), (1, come), (10, to), (11, percent), (20, out), (21, (.pv (.int .i64 i)))] σ (q107 Z w0 n R)
def n120 : Prop :=
  Z (cAt code 120) 120 [(0, gone), (1, come), (10, to), (11, percent), (20, out), (21, (.pv (.int .i64 i)))] σ (q107 Z w0 n R)
def b120 : Prop :=
  pcodeX (cx w0) 172 lv n cuts Z (cAt code 120) 120 [(0, gone), (1, come), (10, to), (11, percent), (20, out), (21, (.pv (.int .i64 i)))] σ (q107 Z w0 n R)
def n121 : Prop :=
  Z (cAt code 121) 121 [(20, out)] σ (finQ (cx w0) Tryd.f10 n R)
def b121 : Prop :=
  pcodeX (cx w0) 172 lv n cuts Z (cAt code 121) 121 [(20, out)] σ (finQ (cx w0) Tryd.f10 n R)
def b0 : Prop :=
  pcodeX (cx w0) 172 lv n cuts Z code 0 (argsE 0 [gone, come, (.pv (.int .i64 least))]) σ (finQ (cx w0) Tryd.f10 n R)
end
variable {Z : XT} {w0 : Base} {n : Nat} {R : RT} {σ τ : Store} {gone come all to percent used out gone' come' all' to' percent' used' out' : AV} {least i best from_ at_ k least' i' best' from_' at_' k' : Int} {t27 t54 t102 : Bool}
theorem b5_eq : b5 Z w0 n R σ gone come least t27 = (
  condB t27 (FinK (cx w0) n (.tup [.nilsl, (.pv (.int .i64 1))]) σ R) (opt2 (aAppend σ ti54 .nilsl gone) fun t30 σ' => opt2 (aAppend σ' ti54 t30 come) fun t33 σ'_1 => n20 Z w0 n R σ'_1 gone come least t33 0)) := by kernel_rfl
theorem n5_in (h : b5 (X w0 n) w0 n R σ gone come least t27) : n5 (X w0 n) w0 n R σ gone come least t27 := xr_in (S := cuts) (by kernel_rfl) h
theorem n20_in (h : b21 (X w0 n) w0 n R σ gone come least all i) : n20 (X w0 n) w0 n R σ gone come least all i := xr_round (cxOK w0) (S := cuts) (by kernel_rfl : cAt code 20 = .loop (cAt code 21)) h
theorem n20_weak (e : EWeak (cx w0) n [(0, gone), (1, come), (2, (.pv (.int .i64 least))), (8, all), (9, (.pv (.int .i64 i)))] σ [(0, gone'), (1, come'), (2, (.pv (.int .i64 least'))), (8, all'), (9, (.pv (.int .i64 i')))] τ) (h : n20 (X w0 n) w0 n R τ gone' come' least' all' i') : n20 (X w0 n) w0 n R σ gone come least all i := xr_weak (L := lv) (k := 20) (by kernel_rfl : cAt code 20 = .loop (cAt code 21)) e h
theorem b21_eq : b21 Z w0 n R σ gone come least all i = (
  opt (aLen ti31.td all) fun t36 => isI .i64 t36 fun t36_1 => condB (decide ((i : Int) < t36_1)) (opt (aIndexAddr σ tabS ti31.td all i) fun t42 => opt (aFieldAddr tabS ti54.td t42 1) fun t43 => opt (aLoad σ ti3 t43) fun t44 => isI .i64 t44 fun t44_1 => condB ((t44_1 : Int) == 1) (opt (aIndexAddr σ tabS ti31.td all i) fun t49 => opt (aFieldAddr tabS ti54.td t49 2) fun t50 => opt (aLoad σ ti9 t50) fun t51 => isS t51 fun t51_1 => n31 Z w0 n R σ gone come least all i (decide (((List.length (t51_1 : List UInt8) : Int) : Int) > 4194304))) (n31 Z w0 n R σ gone come least all i false)) (n37 Z w0 n R σ gone come least)) := by kernel_rfl
theorem b31_eq : b31 Z w0 n R σ gone come least all i t54 = (
  condB t54 (FinK (cx w0) n (.tup [.nilsl, (.pv (.int .i64 2))]) σ R) (n20 Z w0 n R σ gone come least all (IntKind.wrap .i64 (i + 1)))) := by kernel_rfl
theorem n31_in (h : b31 (X w0 n) w0 n R σ gone come least all i t54) : n31 (X w0 n) w0 n R σ gone come least all i t54 := xr_in (S := cuts) (by kernel_rfl) h
theorem b37_eq : b37 Z w0 n R σ gone come least = (
  opt (aLen ti31.td gone) fun t56 => isI .i64 t56 fun t56_1 => opt2 (aMakeSlice σ ti3 t56_1 t56_1) fun t57 σ' => opt (aLen ti31.td gone) fun t59 => isI .i64 t59 fun t59_1 => opt2 (aMakeSlice σ' ti3 t59_1 t59_1) fun t60 σ'_1 => opt (aLen ti31.td come) fun t62 => isI .i64 t62 fun t62_1 => opt2 (aMakeSlice σ'_1 ti4 t62_1 t62_1) fun t63 σ'_2 => n45 Z w0 n R σ'_2 gone come least t57 t60 t63) := by kernel_rfl
theorem n37_in (h : b37 (X w0 n) w0 n R σ gone come least) : n37 (X w0 n) w0 n R σ gone come least := xr_in (S := cuts) (by kernel_rfl) h
theorem n45_in (h : b46 (X w0 n) w0 n R σ gone come least to percent used) : n45 (X w0 n) w0 n R σ gone come least to percent used := xr_round (cxOK w0) (S := cuts) (by kernel_rfl : cAt code 45 = .loop (cAt code 46)) h
theorem b46_eq : b46 Z w0 n R σ gone come least to percent used = (
  n53 Z w0 n R σ gone come least to percent used 0 0 0 0) := by kernel_rfl
theorem n53_in (h : b54 (X w0 n) w0 n R σ gone come least to percent used best from_ at_ i) : n53 (X w0 n) w0 n R σ gone come least to percent used best from_ at_ i := xr_round (cxOK w0) (S := cuts) (by kernel_rfl : cAt code 53 = .loop (cAt code 54)) h
theorem b54_eq : b54 Z w0 n R σ gone come least to percent used best from_ at_ i = (
  opt (aLen ti31.td gone) fun t66 => isI .i64 t66 fun t66_1 => condB (decide ((i : Int) < t66_1)) (n65 Z w0 n R σ gone come least to percent used best from_ at_ i 0) (n89 Z w0 n R σ gone come least to percent used best from_ at_)) := by kernel_rfl
theorem n65_in (h : b66 (X w0 n) w0 n R σ gone come least to percent used best from_ at_ i k) : n65 (X w0 n) w0 n R σ gone come least to percent used best from_ at_ i k := xr_round (cxOK w0) (S := cuts) (by kernel_rfl : cAt code 65 = .loop (cAt code 66)) h
theorem b66_eq : b66 Z w0 n R σ gone come least to percent used best from_ at_ i k = (
  opt (aLen ti31.td come) fun t72 => isI .i64 t72 fun t72_1 => condB (decide ((k : Int) < t72_1)) (opt (aIndexAddr σ tabS ti43.td to i) fun t78 => opt (aLoad σ ti3 t78) fun t79 => isI .i64 t79 fun t79_1 => condB ((t79_1 : Int) != 0) (n77 Z w0 n R σ gone come least to percent used best from_ at_ i k true) (opt (aIndexAddr σ tabS ti58.td used k) fun t84 => opt (aLoad σ ti4 t84) fun t85 => isB t85 fun t85_1 => condB t85_1 (n77 Z w0 n R σ gone come least to percent used best from_ at_ i k true) (opt (aIndexAddr σ tabS ti31.td gone i) fun t90 => opt (aLoad σ ti54 t90) fun t91 => SCalls (cx w0) selvageref25_file.id [t91] σ fun r σ' => isB r fun t92 => condB (!t92) (n77 Z w0 n R σ' gone come least to percent used best from_ at_ i k true) (opt (aIndexAddr σ' tabS ti31.td come k) fun t98 => opt (aLoad σ' ti54 t98) fun t99 => SCalls (cx w0) selvageref25_file.id [t99] σ' fun r_1 σ'_1 => isB r_1 fun t100 => n77 Z w0 n R σ'_1 gone come least to percent used best from_ at_ i k (!t100))))) (n88 Z w0 n R σ gone come least to percent used best from_ at_ i)) := by kernel_rfl
theorem b77_eq : b77 Z w0 n R σ gone come least to percent used best from_ at_ i k t102 = (
  condB t102 (n87 Z w0 n R σ gone come least to percent used best from_ at_ i k) (opt (aIndexAddr σ tabS ti31.td gone i) fun t106 => opt (aFieldAddr tabS ti54.td t106 2) fun t107 => opt (aLoad σ ti9 t107) fun t108 => isS t108 fun t108_1 => opt (aIndexAddr σ tabS ti31.td come k) fun t111 => opt (aFieldAddr tabS ti54.td t111 2) fun t112 => opt (aLoad σ ti9 t112) fun t113 => isS t113 fun t113_1 => SCalls (cx w0) selvageref25_Similarity.id [(.pv (.str t108_1)), (.pv (.str t113_1))] σ fun r σ' => isTup r fun vs => opt ((vs)[0]?) fun t115 => isI .i64 t115 fun t115_1 => isTup r fun vs_1 => opt ((vs_1)[1]?) fun t116 => isI .i64 t116 fun t116_1 => condB (decide ((t115_1 : Int) > best)) (n87 Z w0 n R σ' gone come least to percent used t115_1 i k i k) (n87 Z w0 n R σ' gone come least to percent used best from_ at_ i k))) := by kernel_rfl
theorem n77_in (h : b77 (X w0 n) w0 n R σ gone come least to percent used best from_ at_ i k t102) : n77 (X w0 n) w0 n R σ gone come least to percent used best from_ at_ i k t102 := xr_in (S := cuts) (by kernel_rfl) h
theorem b87_eq : b87 Z w0 n R σ gone come least to percent used best from_ at_ i k = (
  n65 Z w0 n R σ gone come least to percent used best from_ at_ i (IntKind.wrap .i64 (k + 1))) := by kernel_rfl
theorem n87_in (h : b87 (X w0 n) w0 n R σ gone come least to percent used best from_ at_ i k) : n87 (X w0 n) w0 n R σ gone come least to percent used best from_ at_ i k := xr_in (S := cuts) (by kernel_rfl) h
theorem b88_eq : b88 Z w0 n R σ gone come least to percent used best from_ at_ i = (
  n53 Z w0 n R σ gone come least to percent used best from_ at_ (IntKind.wrap .i64 (i + 1))) := by kernel_rfl
theorem n88_in (h : b88 (X w0 n) w0 n R σ gone come least to percent used best from_ at_ i) : n88 (X w0 n) w0 n R σ gone come least to percent used best from_ at_ i := xr_in (S := cuts) (by kernel_rfl) h
theorem b89_eq : b89 Z w0 n R σ gone come least to percent used best from_ at_ = (
  condB (decide ((best : Int) < least)) (n100 Z w0 n R σ gone come to percent) (opt (aIndexAddr σ tabS ti43.td to from_) fun t130 => opt (aStore σ ti3 t130 (.pv (.int .i64 (IntKind.wrap .i64 (at_ + 1))))) fun σ' => opt (aIndexAddr σ' tabS ti43.td percent from_) fun t134 => opt (aStore σ' ti3 t134 (.pv (.int .i64 best))) fun σ'_1 => opt (aIndexAddr σ'_1 tabS ti58.td used at_) fun t137 => opt (aStore σ'_1 ti4 t137 (.pv (.bool true))) fun σ'_2 => n45 Z w0 n R σ'_2 gone come least to percent used)) := by kernel_rfl
theorem n89_in (h : b89 (X w0 n) w0 n R σ gone come least to percent used best from_ at_) : n89 (X w0 n) w0 n R σ gone come least to percent used best from_ at_ := xr_in (S := cuts) (by kernel_rfl) h
theorem b100_eq : b100 Z w0 n R σ gone come to percent = (
  n106 Z w0 n R σ gone come to percent .nilsl 0) := by kernel_rfl
theorem n100_in (h : b100 (X w0 n) w0 n R σ gone come to percent) : n100 (X w0 n) w0 n R σ gone come to percent := xr_in (S := cuts) (by kernel_rfl) h
theorem n106_in (h : b107 (X w0 n) w0 n R σ gone come to percent out i) : n106 (X w0 n) w0 n R σ gone come to percent out i := xr_round (cxOK w0) (S := cuts) (by kernel_rfl : cAt code 106 = .loop (cAt code 107)) h
theorem n106_weak (e : EWeak (cx w0) n [(0, gone), (1, come), (10, to), (11, percent), (20, out), (21, (.pv (.int .i64 i)))] σ [(0, gone'), (1, come'), (10, to'), (11, percent'), (20, out'), (21, (.pv (.int .i64 i')))] τ) (h : n106 (X w0 n) w0 n R τ gone' come' to' percent' out' i') : n106 (X w0 n) w0 n R σ gone come to percent out i := xr_weak (L := lv) (k := 106) (by kernel_rfl : cAt code 106 = .loop (cAt code 107)) e h
theorem b107_eq : b107 Z w0 n R σ gone come to percent out i = (
  opt (aLen ti31.td gone) fun t140 => isI .i64 t140 fun t140_1 => condB (decide ((i : Int) < t140_1)) (opt (aIndexAddr σ tabS ti43.td to i) fun t146 => opt (aLoad σ ti3 t146) fun t147 => isI .i64 t147 fun t147_1 => condB ((t147_1 : Int) != 0) (opt (aIndexAddr σ tabS ti31.td gone i) fun t152 => opt (aFieldAddr tabS ti54.td t152 0) fun t153 => opt (aLoad σ ti9 t153) fun t154 => isS t154 fun t154_1 => opt (aIndexAddr σ tabS ti43.td to i) fun t158 => opt (aLoad σ ti3 t158) fun t159 => isI .i64 t159 fun t159_1 => opt (aIndexAddr σ tabS ti31.td come (IntKind.wrap .i64 (t159_1 - 1))) fun t161 => opt (aFieldAddr tabS ti54.td t161 0) fun t162 => opt (aLoad σ ti9 t162) fun t163 => isS t163 fun t163_1 => opt (aIndexAddr σ tabS ti43.td percent i) fun t166 => opt (aLoad σ ti3 t166) fun t167 => isI .i64 t167 fun t167_1 => opt (aBuild tabS ti39 [(0, (.pv (.str t154_1))), (1, (.pv (.str t163_1))), (2, (.pv (.int .i64 t167_1)))]) fun t168 => opt2 (aBuildSlice σ ti39 false 1 [(0, t168)]) fun t169 σ' => opt2 (aAppend σ' ti39 out t169) fun t170 σ'_1 => n120 Z w0 n R σ'_1 gone come to percent t170 i) (n120 Z w0 n R σ gone come to percent out i)) (n121 Z w0 n R σ out)) := by kernel_rfl
theorem b120_eq : b120 Z w0 n R σ gone come to percent out i = (
  n106 Z w0 n R σ gone come to percent out (IntKind.wrap .i64 (i + 1))) := by kernel_rfl
theorem n120_in (h : b120 (X w0 n) w0 n R σ gone come to percent out i) : n120 (X w0 n) w0 n R σ gone come to percent out i := xr_in (S := cuts) (by kernel_rfl) h
theorem b121_eq : b121 Z w0 n R σ out = (
  FinK (cx w0) n (.tup [out, (.pv (.int .i64 0))]) σ R) := by kernel_rfl
theorem n121_in (h : b121 (X w0 n) w0 n R σ out) : n121 (X w0 n) w0 n R σ out := xr_in (S := cuts) (by kernel_rfl) h
theorem b0_eq : b0 Z w0 n R σ gone come least = (
  condB (decide ((least : Int) < 1)) (n5 Z w0 n R σ gone come least true) (n5 Z w0 n R σ gone come least (decide ((least : Int) > 100)))) := by kernel_rfl
theorem calls (h : b0 (X w0 (List.length σ)) w0 (List.length σ) R σ gone come least) : SCalls (cx w0) selvageref25_Renames.id [gone, come, (.pv (.int .i64 least))] σ R :=
  xr_enter (cxOK w0) (x := fe) (S := cuts) (selvageref25_Renames.ok w0) (by kernel_rfl) h
attribute [irreducible] n5 b5 n20 b21 n31 b31 n37 b37 n45 b46 n53 b54 n65 b66 n77 b77 n87 b87 n88 b88 n89 b89 n100 b100 n106 b107 n120 b120 n121 b121 b0
end selvageref25_Renames
namespace selvageref25_file
def lvs : List (List Nat) := [[0], [0], [1], [1], [2]]
def lv : Nat → List Nat := lvOf lvs
noncomputable def code : Code := bodyOf Tryd.f19
noncomputable def fe : FE := ⟨Tryd.f19, code, lv⟩
def cuts : List Nat := [4]
abbrev X (w0 : Base) (n : Nat) : XT := xr (cx w0) 11 lv n
theorem ok (w0 : Base) : FOK (cx w0) selvageref25_file.id fe := ⟨Tryd.func19, by kernel_rfl, by kernel_rfl⟩
section
variable (Z : XT) (w0 : Base) (n : Nat) (R : RT) (σ : Store) (t2 : Bool) (x : AV)
def n4 : Prop :=
  Z (cAt code 4) 4 [(2, (.pv (.bool t2)))] σ (finQ (cx w0) Tryd.f19 n R)
def b4 : Prop :=
  pcodeX (cx w0) 11 lv n cuts Z (cAt code 4) 4 [(2, (.pv (.bool t2)))] σ (finQ (cx w0) Tryd.f19 n R)
def b0 : Prop :=
  pcodeX (cx w0) 11 lv n cuts Z code 0 (argsE 0 [x]) σ (finQ (cx w0) Tryd.f19 n R)
end
variable {Z : XT} {w0 : Base} {n : Nat} {R : RT} {σ τ : Store} {t2 : Bool} {x : AV}
theorem b4_eq : b4 Z w0 n R σ t2 = (
  FinK (cx w0) n (.pv (.bool t2)) σ R) := by kernel_rfl
theorem n4_in (h : b4 (X w0 n) w0 n R σ t2) : n4 (X w0 n) w0 n R σ t2 := xr_in (S := cuts) (by kernel_rfl) h
theorem b0_eq : b0 Z w0 n R σ x = (
  ((AV.cells x).all AV.one = true ∧ (opt (aFieldAddr tabS ti54.td (.ptr (List.length σ) 0) 1) fun t3 => opt (aLoad (σ ++ [.cells 54 (AV.cells x)]) ti3 t3) fun t4 => isI .i64 t4 fun t4_1 => condB ((t4_1 : Int) == 1) (opt (aFieldAddr tabS ti54.td (.ptr (List.length σ) 0) 2) fun t7 => opt (aLoad (σ ++ [.cells 54 (AV.cells x)]) ti9 t7) fun t8 => isS t8 fun t8_1 => n4 Z w0 n R (σ ++ [.cells 54 (AV.cells x)]) (!((t8_1 : List UInt8) == []))) (n4 Z w0 n R (σ ++ [.cells 54 (AV.cells x)]) false)))) := by kernel_rfl
theorem calls (h : b0 (X w0 (List.length σ)) w0 (List.length σ) R σ x) : SCalls (cx w0) selvageref25_file.id [x] σ R :=
  xr_enter (cxOK w0) (x := fe) (S := cuts) (selvageref25_file.ok w0) (by kernel_rfl) h
attribute [irreducible] n4 b4 b0
end selvageref25_file
namespace selvagelaw25_FilediffRenames
def lvs : List (List Nat) := [[0, 1, 2], [0, 1, 2], [0, 1, 2], [0, 1, 2], [0, 1, 2, 7, 8], [0, 1, 2, 7, 8], [7, 8, 9, 10], [7, 8, 9, 10], [7, 8, 9, 10], [7, 9, 36], [], [], [6], [7, 9], [7, 9], [7, 9], [7, 9], [7, 9, 11], [7, 9, 11], [7, 9, 11], [7, 9, 11], [7, 9, 11], [7, 9, 11, 40], [7, 9, 11], [], [7, 9, 11], [7, 9, 11], [7, 9, 11], [7, 9, 11], [7, 9, 11, 51], [], [], [6], [7, 9, 11], [7, 9, 11], [], [], [6]]
def lv : Nat → List Nat := lvOf lvs
noncomputable def code : Code := bodyOf Tryd.f4
noncomputable def fe : FE := ⟨Tryd.f4, code, lv⟩
def cuts : List Nat := [9, 19, 35]
abbrev X (w0 : Base) (n : Nat) : XT := xr (cx w0) 53 lv n
theorem ok (w0 : Base) : FOK (cx w0) selvagelaw25_FilediffRenames.id fe := ⟨Tryd.func4, by kernel_rfl, by kernel_rfl⟩
section
variable (Z : XT) (w0 : Base) (n : Nat) (R : RT) (σ : Store) (l_ m : AV) (t36 : Bool) (i : Int) (gone come : AV) (least : Int)
def q7 : QT := thenQ (fun env σ => pcodeX (cx w0) 53 lv n cuts Z (cAt code 14) 14 (prune (lv 14) env) σ (finQ (cx w0) Tryd.f4 n R)) (finQ (cx w0) Tryd.f4 n R)
def q15 : QT := thenQ (fun env σ => Z (cAt code 35) 35 (prune (lv 35) env) σ (finQ (cx w0) Tryd.f4 n R)) (finQ (cx w0) Tryd.f4 n R)
def q18 : QT := blockQ 0 (q15 Z w0 n R)
def q19 : QT := thenQ (fun env σ => Z (cAt code 18) 18 (prune (lv 18) env) σ (q18 Z w0 n R)) (q18 Z w0 n R)
def n9 : Prop :=
  Z (cAt code 9) 9 [(7, l_), (9, m), (36, (.pv (.bool t36)))] σ (q7 Z w0 n R)
def b9 : Prop :=
  pcodeX (cx w0) 53 lv n cuts Z (cAt code 9) 9 [(7, l_), (9, m), (36, (.pv (.bool t36)))] σ (q7 Z w0 n R)
def n18 : Prop :=
  Z (cAt code 18) 18 [(7, l_), (9, m), (11, (.pv (.int .i64 i)))] σ (q18 Z w0 n R)
def b19 : Prop :=
  pcodeX (cx w0) 53 lv n cuts Z (cAt code 19) 19 [(7, l_), (9, m), (11, (.pv (.int .i64 i)))] σ (q19 Z w0 n R)
def n35 : Prop :=
  Z (cAt code 35) 35 [] σ (finQ (cx w0) Tryd.f4 n R)
def b35 : Prop :=
  pcodeX (cx w0) 53 lv n cuts Z (cAt code 35) 35 [] σ (finQ (cx w0) Tryd.f4 n R)
def b0 : Prop :=
  pcodeX (cx w0) 53 lv n cuts Z code 0 (argsE 0 [gone, come, (.pv (.int .i64 least))]) σ (finQ (cx w0) Tryd.f4 n R)
end
variable {Z : XT} {w0 : Base} {n : Nat} {R : RT} {σ τ : Store} {l_ m gone come l_' m' : AV} {t36 : Bool} {i least i' : Int}
theorem b9_eq : b9 Z w0 n R σ l_ m t36 = (
  condB t36 (FinK (cx w0) n (.pv (.bool false)) σ R) (n18 Z w0 n R σ l_ m 0)) := by kernel_rfl
theorem n9_in (h : b9 (X w0 n) w0 n R σ l_ m t36) : n9 (X w0 n) w0 n R σ l_ m t36 := xr_in (S := cuts) (by kernel_rfl) h
theorem n18_in (h : b19 (X w0 n) w0 n R σ l_ m i) : n18 (X w0 n) w0 n R σ l_ m i := xr_round (cxOK w0) (S := cuts) (by kernel_rfl : cAt code 18 = .loop (cAt code 19)) h
theorem b19_eq : b19 Z w0 n R σ l_ m i = (
  opt (aLen ti32.td l_) fun t39 => isI .i64 t39 fun t39_1 => condB (decide ((i : Int) < t39_1)) (opt (aIndexAddr σ tabS ti32.td l_ i) fun t45 => opt (aLoad σ ti40 t45) fun t46 => opt (aIndexAddr σ tabS ti35.td m i) fun t49 => opt (aLoad σ ti39 t49) fun t50 => aBinK tabS 39 false .neq t46 t50 fun v => isB v fun b => condB b (FinK (cx w0) n (.pv (.bool false)) σ R) (n18 Z w0 n R σ l_ m (IntKind.wrap .i64 (i + 1)))) (n35 Z w0 n R σ)) := by kernel_rfl
theorem b35_eq : b35 Z w0 n R σ = (
  SCalls (cx w0) selvagelaw25_moved.id [] σ fun r σ' => isB r fun t52 => FinK (cx w0) n (.pv (.bool t52)) σ' R) := by kernel_rfl
theorem n35_in (h : b35 (X w0 n) w0 n R σ) : n35 (X w0 n) w0 n R σ := xr_in (S := cuts) (by kernel_rfl) h
theorem b0_eq : b0 Z w0 n R σ gone come least = (
  SCalls (cx w0) filediff_Renames.id [gone, come, (.pv (.int .i64 least))] σ fun r σ' => isTup r fun vs => opt ((vs)[0]?) fun t17 => isTup r fun vs_1 => opt ((vs_1)[1]?) fun t18 => SCalls (cx w0) selvageref25_Renames.id [gone, come, (.pv (.int .i64 least))] σ' fun r_1 σ'_1 => isTup r_1 fun vs_2 => opt ((vs_2)[0]?) fun t24 => isTup r_1 fun vs_3 => opt ((vs_3)[1]?) fun t25 => isI .i64 t25 fun t25_1 => opt (aLen ti32.td t17) fun t27 => isI .i64 t27 fun t27_1 => opt (aLen ti35.td t24) fun t29 => isI .i64 t29 fun t29_1 => condB ((t27_1 : Int) != t29_1) (n9 Z w0 n R σ'_1 t17 t24 true) (SCalls (cx w0) selvagelaw25_num.id [t18] σ'_1 fun r_2 σ'_2 => isI .i64 r_2 fun t33 => n9 Z w0 n R σ'_2 t17 t24 ((t33 : Int) != t25_1))) := by kernel_rfl
theorem calls (h : b0 (X w0 (List.length σ)) w0 (List.length σ) R σ gone come least) : SCalls (cx w0) selvagelaw25_FilediffRenames.id [gone, come, (.pv (.int .i64 least))] σ R :=
  xr_enter (cxOK w0) (x := fe) (S := cuts) (selvagelaw25_FilediffRenames.ok w0) (by kernel_rfl) h
attribute [irreducible] n9 b9 n18 b19 n35 b35 b0
end selvagelaw25_FilediffRenames
end Go.Sv
end
section
namespace Go.Sv
open Go Go.RowKit Go.Proofs
abbrev entsA (l : List Ent) : AV := .pv (.sl (l.map entP))
theorem ent_get {l : List Ent} {i : Nat} {x : Ent} (h : l[i]? = some x) : (l.map entP)[i]? = some (entP x) := by rw [List.getElem?_map, h]; rfl
section
variable {w0 : Base} {σ : Store} {R : AV → Store → Prop}
theorem rfile_spec {e : Ent} (hR : R (.pv (.bool (fileB e))) σ) : SCalls (cx w0) selvageref25_file.id [.pv (entP e)] σ R := by
  refine SCalls.wf fun hw _ => ?_
  have fin : ∀ q, q = fileB e → selvageref25_file.n4 (selvageref25_file.X w0 σ.length) w0 σ.length R (σ ++ [.cells 54 [.pv (.str e.p), .pv (.int .i64 e.k), .pv (.str e.t)]]) q := by
    rintro q rfl
    refine selvageref25_file.n4_in ?_
    rw [selvageref25_file.b4_eq]
    exact fin_cut glob0 hw rfl hR
  refine selvageref25_file.calls ?_
  rw [selvageref25_file.b0_eq]
  refine ⟨rfl, ?_⟩
  have hl : (σ ++ [SObj.cells 54 (AV.cells (.pv (entP e)))])[σ.length]? = some (.cells 54 [.pv (.str e.p), .pv (.int .i64 e.k), .pv (.str e.t)]) := by rw [List.getElem?_append_right (Nat.le_refl _), Nat.sub_self]; rfl
  refine opt_in (v := .ptr σ.length 1) rfl (opt_in (v := .pv (.int .i64 e.k)) (by rw [aLoad_cells hl]; rfl) (isI_in ?_))
  rw [condB_ibeq]
  refine ite_split (fun g => ?_) (fun g => fin _ ?_)
  · refine opt_in (v := .ptr σ.length 2) rfl (opt_in (v := .pv (.str e.t)) (by rw [aLoad_cells hl]; rfl) (isS_in (fin _ ?_)))
    unfold fileB; rw [if_pos g]
  · unfold fileB; rw [if_neg g]
end
section
variable {w0 : Base} {P : AV → Prop} {gone come : List Ent} {least : Int} {to : List Int} {tk : List Bool}
theorem bo_load {σ : Store} {i s : Nat} {c : List Bool} {fz : Bool} (ho : σ[i]? = some (.arr 1 (boP c) fz)) (hl : c.length = s) {j : Nat} {v : Bool} (hj : c[j]? = some v) : aLoad σ ti4 (.eptr i s j 0) = some (.pv (.bool v)) := by
  have hg : (boP c)[j]? = some (PV.bool v) := by rw [List.getElem?_map, hj]; rfl
  simp only [aLoad, ho, if_pos (show (boP c).length = s by rw [List.length_map]; exact hl), hg]
  rfl
abbrev rnS (gone come : List Ent) (to : List Int) (tk : List Bool) : Store := [.arr 3 ((gone ++ come).map entP) false, .arr 1 (iP to) false, .arr 1 (iP (pcF come gone to)) false, .arr 1 (boP tk) false]
abbrev iArr (i n : Nat) : AV := .arr i n 0 n
abbrev n87' (w0 : Base) (P : AV → Prop) (gone come : List Ent) (least : Int) (to : List Int) (tk : List Bool) (s : Bst) (i k : Nat) : Prop := selvageref25_Renames.n87 (selvageref25_Renames.X w0 0) w0 0 (fun r _ => P r) (rnS gone come to tk) (entsA gone) (entsA come) least (iArr 1 gone.length) (iArr 2 gone.length) (iArr 3 come.length) s.b s.x s.y i k
abbrev n65' (w0 : Base) (P : AV → Prop) (gone come : List Ent) (least : Int) (to : List Int) (tk : List Bool) (s : Bst) (i k : Nat) : Prop := selvageref25_Renames.n65 (selvageref25_Renames.X w0 0) w0 0 (fun r _ => P r) (rnS gone come to tk) (entsA gone) (entsA come) least (iArr 1 gone.length) (iArr 2 gone.length) (iArr 3 come.length) s.b s.x s.y i k
abbrev n77' (w0 : Base) (P : AV → Prop) (gone come : List Ent) (least : Int) (to : List Int) (tk : List Bool) (s : Bst) (i k : Nat) (q : Bool) : Prop := selvageref25_Renames.n77 (selvageref25_Renames.X w0 0) w0 0 (fun r _ => P r) (rnS gone come to tk) (entsA gone) (entsA come) least (iArr 1 gone.length) (iArr 2 gone.length) (iArr 3 come.length) s.b s.x s.y i k q
abbrev n53' (w0 : Base) (P : AV → Prop) (gone come : List Ent) (least : Int) (to : List Int) (tk : List Bool) (s : Bst) (i : Nat) : Prop := selvageref25_Renames.n53 (selvageref25_Renames.X w0 0) w0 0 (fun r _ => P r) (rnS gone come to tk) (entsA gone) (entsA come) least (iArr 1 gone.length) (iArr 2 gone.length) (iArr 3 come.length) s.b s.x s.y i
abbrev n45' (w0 : Base) (P : AV → Prop) (gone come : List Ent) (least : Int) (to : List Int) (tk : List Bool) : Prop := selvageref25_Renames.n45 (selvageref25_Renames.X w0 0) w0 0 (fun r _ => P r) (rnS gone come to tk) (entsA gone) (entsA come) least (iArr 1 gone.length) (iArr 2 gone.length) (iArr 3 come.length)
theorem rn_pair (L : Laid w0.w) (hg : ∀ e ∈ gone, e.t.length ≤ 4194304) (hc : ∀ e ∈ come, e.t.length ≤ 4194304) (ht : to.length = gone.length) (hk : tk.length = come.length) {s : Bst} {i k : Nat} {x y : Ent} (gx : gone[i]? = some x) (gy : come[k]? = some y)
    (s0 : 0 ≤ s.b) (next : n87' w0 P gone come least to tk (stB (vF gone come to tk) i k s) i k) (hklt : k < come.length) : n65' w0 P gone come least to tk s i k := by
  have li := (List.getElem?_eq_some_iff.1 gx).1
  have gt : to[i]? = some (to[i]'(by omega)) := List.getElem?_eq_getElem _
  have gk : tk[k]? = some (tk[k]'(by omega)) := List.getElem?_eq_getElem _
  have skip : vF gone come to tk i k = 0 → n77' w0 P gone come least to tk s i k true := by
    intro h
    refine selvageref25_Renames.n77_in ?_
    rw [selvageref25_Renames.b77_eq, condB_true']
    unfold stB at next
    rw [h, if_neg (by omega)] at next
    exact next
  have take : to[i]? = some 0 → tk[k]? = some false → fileB x = true → fileB y = true → n77' w0 P gone come least to tk s i k false := by
    intro h1 h2 h3 h4
    have hv : vF gone come to tk i k = (simN x.t y.t : Int) := by
      unfold vF
      rw [if_pos ⟨h1, h2⟩, gx, gy]
      simp only
      unfold likeM
      rw [if_pos ⟨h3, h4⟩]
    refine selvageref25_Renames.n77_in ?_
    rw [selvageref25_Renames.b77_eq, condB_false']
    refine opt_in (idx_ro tab54 (ent_get gx) rfl) ?_
    repeat ((with_reducible first | apply opt_in | apply wI | apply wT | apply wP | apply wS | apply wB); exact rfl)
    refine opt_in (idx_ro tab54 (ent_get gy) rfl) ?_
    repeat ((with_reducible first | apply opt_in | apply wI | apply wT | apply wP | apply wS | apply wB); exact rfl)
    refine rSimilarity_spec L ?_
    unfold simD
    rw [if_pos ⟨hg x (List.mem_of_getElem? gx), hc y (List.mem_of_getElem? gy)⟩]
    repeat ((with_reducible first | apply opt_in | apply wI | apply wT | apply wP | apply wS | apply wB); exact rfl)
    unfold stB at next
    rw [hv] at next
    rw [condB_decide]
    refine ite_split (fun g => ?_) (fun g => ?_)
    · rw [if_pos g] at next; exact next
    · rw [if_neg g] at next; exact next
  refine selvageref25_Renames.n65_in ?_
  rw [selvageref25_Renames.b66_eq]
  repeat ((with_reducible first | apply opt_in | apply wI | apply wT | apply wP | apply wS | apply wB); exact rfl)
  rw [List.length_map, condB_decide, if_pos (by omega)]
  refine opt_in (arr_idx (i := 1) (c := to) (fz := false) rfl ht li) ?_
  refine opt_in (arr_load (i := 1) (c := to) (fz := false) rfl ht gt) (isI_in ?_)
  rw [condB_ibne]
  refine ite_split (fun g1 => ?_) (fun g1 => skip ?_)
  · rw [g1] at gt
    refine opt_in (bo_idx (i := 3) (c := tk) (fz := false) rfl hk hklt) ?_
    refine opt_in (bo_load (i := 3) (c := tk) (fz := false) rfl hk gk) (isB_in ?_)
    refine condB_split (fun g2 => skip ?_) (fun g2 => ?_)
    · unfold vF; rw [if_neg (fun h => by rw [gk, g2] at h; simp at h)]
    · rw [g2] at gk
      refine opt_in (idx_ro tab54 (ent_get gx) rfl) ?_
      repeat ((with_reducible first | apply opt_in | apply wI | apply wT | apply wP | apply wS | apply wB); exact rfl)
      refine rfile_spec (isB_in ?_)
      rw [condB_not]
      refine condB_split (fun g3 => ?_) (fun g3 => skip ?_)
      · refine opt_in (idx_ro tab54 (ent_get gy) rfl) ?_
        repeat ((with_reducible first | apply opt_in | apply wI | apply wT | apply wP | apply wS | apply wB); exact rfl)
        refine rfile_spec (isB_in ?_)
        cases g4 : fileB y with
        | true => exact take gt gk g3 g4
        | false =>
          refine skip ?_
          unfold vF; rw [if_pos ⟨gt, gk⟩, gx, gy]
          simp only
          unfold likeM; rw [if_neg (fun h => by rw [g4] at h; cases h.2)]
      · unfold vF; rw [if_pos ⟨gt, gk⟩, gx, gy]
        simp only
        unfold likeM; rw [if_neg (fun h => by rw [g3] at h; cases h.1)]
  · unfold vF; rw [if_neg (fun h => by rw [gt] at h; exact g1 (by simpa using h.1))]
theorem rn_in (L : Laid w0.w) (hg : ∀ e ∈ gone, e.t.length ≤ 4194304) (hc : ∀ e ∈ come, e.t.length ≤ 4194304) (hcl : come.length ≤ 4194304) (ht : to.length = gone.length) (hk : tk.length = come.length) {i : Nat} {x : Ent} (gx : gone[i]? = some x) : ∀ (f k : Nat) (s : Bst), k + f = come.length → OkB (vF gone come to tk) gone.length come.length s →
    n53' w0 P gone come least to tk (inB (vF gone come to tk) i f k s) (i + 1) → i < 4194304 → n65' w0 P gone come least to tk s i k
  | 0, k, s, hf, ok, next, hi => by
    refine selvageref25_Renames.n65_in ?_
    rw [selvageref25_Renames.b66_eq]
    repeat ((with_reducible first | apply opt_in | apply wI | apply wT | apply wP | apply wS | apply wB); exact rfl)
    rw [List.length_map, condB_decide, if_neg (by omega)]
    refine selvageref25_Renames.n88_in ?_
    rw [selvageref25_Renames.b88_eq, wrap_next hi (by omega)]
    exact next
  | f + 1, k, s, hf, ok, next, hi => by
    have hlt : k < come.length := by omega
    have li := (List.getElem?_eq_some_iff.1 gx).1
    refine rn_pair L hg hc ht hk gx (List.getElem?_eq_getElem hlt) ok.nonneg ?_ hlt
    refine selvageref25_Renames.n87_in ?_
    rw [selvageref25_Renames.b87_eq, wrap_next hlt (by omega)]
    exact rn_in L hg hc hcl ht hk gx f (k + 1) _ (by omega) (stB_ok li hlt ok) next hi
theorem rn_out (L : Laid w0.w) (hg : ∀ e ∈ gone, e.t.length ≤ 4194304) (hc : ∀ e ∈ come, e.t.length ≤ 4194304) (hgl : gone.length ≤ 4194304) (hcl : come.length ≤ 4194304) (ht : to.length = gone.length) (hk : tk.length = come.length) : ∀ (f i : Nat) (s : Bst), i + f = gone.length → OkB (vF gone come to tk) gone.length come.length s →
    (∀ s', s' = outB (vF gone come to tk) come.length f i s → selvageref25_Renames.n89 (selvageref25_Renames.X w0 0) w0 0 (fun r _ => P r) (rnS gone come to tk) (entsA gone) (entsA come) least (iArr 1 gone.length) (iArr 2 gone.length) (iArr 3 come.length) s'.b s'.x s'.y) → n53' w0 P gone come least to tk s i
  | 0, i, s, hf, ok, next => by
    refine selvageref25_Renames.n53_in ?_
    rw [selvageref25_Renames.b54_eq]
    repeat ((with_reducible first | apply opt_in | apply wI | apply wT | apply wP | apply wS | apply wB); exact rfl)
    rw [List.length_map, condB_decide, if_neg (by omega)]
    exact next s rfl
  | f + 1, i, s, hf, ok, next => by
    have hlt : i < gone.length := by omega
    refine selvageref25_Renames.n53_in ?_
    rw [selvageref25_Renames.b54_eq]
    repeat ((with_reducible first | apply opt_in | apply wI | apply wT | apply wP | apply wS | apply wB); exact rfl)
    rw [List.length_map, condB_decide, if_pos (by omega)]
    refine rn_in L hg hc hcl ht hk (List.getElem?_eq_getElem hlt) come.length 0 s (Nat.zero_add _) ok ?_ (by omega)
    exact rn_out L hg hc hgl hcl ht hk f (i + 1) _ (by omega) (inB_ok hlt come.length 0 (Nat.zero_add _) ok) next
end
end Go.Sv
end
