/- Part of a proof over the seat Ytepabkjfnpaijaa. -/
import Derived.Test.YtepabkjfnpaijaaQC
namespace Go.Proofs.Ytepabkjfnpaijaa
open Go RowKit Go.Ew
set_option maxRecDepth 100000
set_option linter.unusedSimpArgs false
set_option linter.unusedVariables false
set_option maxHeartbeats 1000000
theorem hd_le9 {base n : Nat} (h : n < 4611686018427387904) : (hd base n).length ≤ 9 := (hd_le h).2
theorem form_txt_le {p : List UInt8} (h : p.length < 4611686018427387904) : (form (txt p)).length ≤ 9 + p.length := by
  have n10 : ((0 : Int) = 1) = False := by simp
  have h9 := hd_le9 (base := 128) h
  simp only [txt, form, n10, if_false]
  split
  · omega
  · rw [List.length_append]; omega
theorem form_lst_le {ks : List Itm} (h : (formL ks).length < 4611686018427387904) : (form (lst ks)).length ≤ 9 + (formL ks).length := by
  have h9 := hd_le9 (base := 192) h
  simp only [lst, form, ↓reduceIte]
  rw [List.length_append]; omega
theorem formL_tops : ∀ {ps : List (List UInt8)}, (∀ p ∈ ps, p.length = 32) → (formL (ps.map txt)).length ≤ 41 * ps.length
  | [], _ => by simp [formL]
  | p :: ps, h => by
    have h1 := formL_tops (ps := ps) (fun q hq => h q (by simp [hq]))
    have h2 := h p (by simp)
    have h3 := form_txt_le (p := p) (by omega)
    rw [List.map_cons, formL, List.length_append, List.length_cons]; omega
theorem form_log_le {B : Base} {g : LogV} (h : g.Ok B) : (form (logI g)).length ≤ 155 * (1 + (g.tn + g.dn / 100)) := by
  have htb := h.tb
  have hdb := h.db
  have hdd := h.hd
  have ha := h.ha
  have h1 := formL_tops (ps := g.tops) (fun q hq => top_mem h hq)
  rw [tops_len] at h1
  have h2 := form_lst_le (ks := g.tops.map txt) (by omega)
  have h3 := form_txt_le (p := g.ad) (by omega)
  have h4 := form_txt_le (p := g.dt) (by omega)
  have e : (formL [txt g.ad, lst (g.tops.map txt), txt g.dt]).length = (form (txt g.ad)).length + ((form (lst (g.tops.map txt))).length + (form (txt g.dt)).length) := by
    simp only [formL, List.length_append, List.length_nil, Nat.add_zero]
  have h5 := form_lst_le (ks := [txt g.ad, lst (g.tops.map txt), txt g.dt]) (by omega)
  rw [logI]
  omega
theorem formL_logs {B : Base} : ∀ {L : List LogV}, (∀ g ∈ L, g.Ok B) → (formL (L.map logI)).length ≤ 155 * (L.length + fewS L)
  | [], _ => by simp [formL]
  | g :: L, h => by
    have h1 := formL_logs (L := L) (fun q hq => h q (by simp [hq]))
    have h2 := form_log_le (h g (by simp))
    rw [List.map_cons, formL, List.length_append, List.length_cons, fewS]; omega
theorem form_rec_le {B : Base} {r : RcV} (h : LogsAt B r.lA r.L) (hok : r.ok.toNat < 18446744073709551616) (hgas : r.gas < 18446744073709551616) (hf : r.L.length + fewS r.L ≤ 500) : (form (recI r)).length ≤ 100000 := by
  have h1 := formL_logs h.ok
  have h2 := form_lst_le (ks := r.L.map logI) (by omega)
  have h3 := form_txt_le (p := leB r.ok.toNat) (by have := nby_8 hok; have := leB_len r.ok.toNat; omega)
  have h4 := form_txt_le (p := leB r.gas) (by have := nby_8 hgas; have := leB_len r.gas; omega)
  have h5 := form_txt_le (p := blB r.F) (by have := blB_len r.F; omega)
  have g1 := nby_8 hok
  have g2 := leB_len r.ok.toNat
  have g3 := nby_8 hgas
  have g4 := leB_len r.gas
  have g5 := blB_len r.F
  have e : (formL [txt (leB r.ok.toNat), txt (leB r.gas), txt (blB r.F), lst (r.L.map logI)]).length = (form (txt (leB r.ok.toNat))).length + ((form (txt (leB r.gas))).length + ((form (txt (blB r.F))).length + (form (lst (r.L.map logI))).length)) := by
    simp only [formL, List.length_append, List.length_nil, Nat.add_zero]
  have h6 := form_lst_le (ks := [txt (leB r.ok.toNat), txt (leB r.gas), txt (blB r.F), lst (r.L.map logI)]) (by omega)
  rw [recI]
  omega
theorem encR_len (r : RcV) : (encR r).length ≤ (form (recI r)).length + 1 := by
  rw [encR, List.length_append]; split <;> simp <;> omega
end Go.Proofs.Ytepabkjfnpaijaa

