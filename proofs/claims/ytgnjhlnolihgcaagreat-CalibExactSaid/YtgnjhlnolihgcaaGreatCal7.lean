import Derived.Test.YtgnjhlnolihgcaaGreatCalP
import Derived.Deep.RegionHeld3
namespace Go.Proofs.YtgnjhlnolihgcaaGreat
open Go.RowKit
attribute [local go_sem ↓] Go.wp_at_zero Go.wp_at_succ
theorem getD_bd {l:List Int} (h:∀ x∈l,-4294967296≤x∧x≤4294967296) (k:Nat) : -4294967296≤l.getD k 0∧l.getD k 0≤4294967296:=by
 rw [List.getD_eq_getElem?_getD];rcases Nat.lt_or_ge k l.length with hk | hk
 ·rw [List.getElem?_eq_getElem hk]; exact h _ (List.getElem_mem hk)
 ·rw [List.getElem?_eq_none hk]; decide
theorem SlI.atD {w:World} {B:Nat} {A:Option Addr} {l:List Int} {c k:Nat} (h:SlI w B A l c) (hk:k < l.length):∃ b o,A=some ⟨b,o,none⟩∧b < B∧w.cell? ⟨b,o+k,none⟩=some (.int .i64 (l.getD k 0)):=by
 obtain ⟨b,o,e,hb,hc⟩:=h.at_ hk;exact ⟨b,o,e,hb,by rw [hc,List.getD_eq_getElem?_getD,List.getElem?_eq_getElem hk]; rfl⟩
end Go.Proofs.YtgnjhlnolihgcaaGreat