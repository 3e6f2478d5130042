/-
 Own text, printed by a program of mine (wip/gx/rx/works.py): the oracles answer as the functions do.
-/
import Derived.Test.YtdencdfdikmgbaaGreatDoorRxW
import Derived.Laws.LoneSync
set_option linter.unusedSimpArgs false
set_option linter.unusedVariables false
set_option maxRecDepth 100000
namespace Go.Proofs.YtdencdfdikmgbaaGreatDoor
open Go.RowKit Go.Gx Go.Gx.Rx
theorem orcOK : pY Tryz.prog iN := by
 intro f g hg call CO vs lo Hp s V Hp' s' h m w w0 args hls gl I hv
 have e : Tr.list 16 nE = [(248, i5 249), (196, fun _ => lL .i64), (91, fun _ => lK), (199, fun _ => gM .i64), (239, fun _ => iZ .i64)] := rfl
 have hq := Tr.get_mem 16 nE f g hg
 rw [e] at hq
 simp only [List.mem_cons, List.not_mem_nil, or_false, Prod.mk.injEq] at hq
 rcases hq with ⟨rfl, rfl⟩ | ⟨rfl, rfl⟩ | ⟨rfl, rfl⟩ | ⟨rfl, rfl⟩ | ⟨rfl, rfl⟩
 ·exact tg ent248 ent249 (fun b off lb w B h0 h1 f0 f1 hb hB => rL b off lb w B h0 h1 f0 f1 hb hB) CO h hls gl I hv
 ·exact add_orc (k := .i64) (fun hc hz hs => run_call_add Tryz.func196 (by kernel_rfl) (by kernel_rfl) (by kernel_rfl) .i64 (by kernel_rfl) hc hz hs) h I hv
 ·exact sum_orc rz (fun hb hl hr => lS hb hl hr) h gl I hv
 ·exact q6 (k := .i64) (fun hc hz => run_call_store Tryz.func199 (by kernel_rfl) (by kernel_rfl) (by kernel_rfl) (by kernel_rfl) hc hz) h I hv
 exact tf (k := .i64) (fun hc => run_call_load Tryz.func239 (by kernel_rfl) (by kernel_rfl) (by kernel_rfl) .i64 (by kernel_rfl) hc) h I hv
theorem hmix : Tryz.prog.follows .mixedOrders = true := by kernel_rfl
theorem jP (k : Nat) : lJ Tryz.prog iN k := (lN tabOK orcOK hmix k).1
end Go.Proofs.YtdencdfdikmgbaaGreatDoor
