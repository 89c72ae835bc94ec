/- 'laws.FnExactParseContract' returns true for every text, where the names of the terms hold what the program lays. -/
import Derived.Test.YtjaohekkmlkinaaDoorKit
import Derived.Test.YtjaohekkmlkinaaDoorCtr
import Derived.Test.YtjaohekkmlkinaaDoorPrsC
import Derived.Test.YtjaohekkmlkinaaDoorPrsS
set_option linter.unusedSimpArgs false
set_option linter.unusedVariables false
namespace Go.Proofs.YtjaohekkmlkinaaDoor
open Go Go.RowKit Go.Proofs
set_option maxRecDepth 100000 in
set_option maxHeartbeats 12800000 in
theorem c_FnExactParseContract (v0:Value) (a0:Bs) (w:World) (hT:TM w) (h0:v0=sv a0):Calls Tryd.prog 4 #[v0] w fun e w'=>e=.returned (.bool true)∧Below w.heap.size w w':=by
 subst h0
 have HT:=Lib.hid hT
 clear hT
 by_cases hl:1048576<a0.length
 ·go_enter Tryd.func4,Tryd.ntmps4
  have hli:(1048576:Int)<(a0.length:Int):=by omega
  go_wp2_with fail
  go_ret
  exact ⟨rfl,bel⟩
 have hli:¬(1048576:Int)<(a0.length:Int):=by omega
 have hl0:a0.length≤1049000:=by omega
 clear hl
 have CW:=Lib.hid fun W=>c_sPC a0 W hl0
 have CG:=Lib.hid fun W h=>c_iPC a0 W h hl0
 rw[pCI_eq] at CG
 obtain ⟨D,hD⟩:∃ D,D=(pCS a0).getD ctr0:=⟨_,rfl⟩
 obtain ⟨sb,hsb⟩:∃ b,b=(pCS a0).isSome:=⟨_,rfl⟩
 rw[←hD,←hsb] at CW CG
 clear hD hsb hl0
 go_enter Tryd.func4,Tryd.ntmps4
 go_wp2_with fail
 refine (CW.out _).mono ?_
 rintro e w1 ⟨rw0,rfl,Xw,hBx⟩
 obtain ⟨Aw,cw,Bw,dw,Ew,ew,Fw,fw,Gw,gw,rfl⟩:=Xw.form
 have hLD:=Xw.len
 have hS:=bgo (w:=w) bel hBx
 have zw1:=hBx.size
 try simp only[World.size_alloc] at zw1
 have hB:=hS
 clear hS hBx
 go_wp2_with fail
 refine (CG.out _ (HT.out.below bel)).mono ?_
 rintro e w2 ⟨rg0,rfl,Xg,hBx⟩
 obtain ⟨Ag,cg,Bg,dg,Eg,eg,Fg,fg,Gg,gg,rfl⟩:=Xg.form
 simp only[World.size_alloc] at Xg
 have hS:=bgo (w:=w1) bel hBx
 have zw2:=hBx.size
 try simp only[World.size_alloc] at zw2
 replace hB:=bgo hB hS
 replace Xw:=Xw.below hS
 have pw:=Blk.next (g:=w1.heap.size) (t:=34) (cs:=#[.slice Aw D.pre.facts.length cw,.slice Bw D.pre.atoms.length dw,.slice Ew D.post.facts.length ew,.slice Fw D.post.atoms.length fw,.slice Gw D.changes.length gw]) blks hBx
 clear hS hBx
 (replace qpw:=pw.cell;replace rpw:=pw.frozen;replace lpw:=pw.lt)
 go_wp2_with fail
 refine (t_ctr _ _ D _ (Xg.below bel).reads (Xw.below bel).reads).mono ?_
 rintro e w3 ⟨rfl,hBx⟩
 have hS:=bgo (w:=w2) bel hBx
 have zw3:=hBx.size
 try simp only[World.size_alloc] at zw3
 replace hB:=bgo hB hS
 replace pw:=pw.next hS
 replace Xw:=Xw.below hS
 replace Xg:=Xg.below hS
 have pg:=Blk.next (g:=w2.heap.size) (t:=34) (cs:=#[.slice Ag D.pre.facts.length cg,.slice Bg D.pre.atoms.length dg,.slice Eg D.post.facts.length eg,.slice Fg D.post.atoms.length fg,.slice Gg D.changes.length gg]) blks hBx
 clear hS hBx
 (replace qpw:=pw.cell;replace rpw:=pw.frozen;replace lpw:=pw.lt)
 (replace qpg:=pg.cell;replace rpg:=pg.frozen;replace lpg:=pg.lt)
 go_wp2_with fail
 refine (m_ctr _ D _ _ _ _ Xg (by omega) (by omega)).mono ?_
 rintro e w4 ⟨rfl,Xgm,hM⟩
 have hsz:=hM.size
 replace hB:=Mk.keepB hB hM (by omega) (by have:=hB.size;omega)
 replace pw:=hM.blk pw (by omega)
 replace pg:=hM.blk pg (by omega)
 replace Xw:=Xw.mk hM (by omega)
 clear Xg hM
 have zw4:=hsz
 clear hsz
 (replace qpw:=pw.cell;replace rpw:=pw.frozen;replace lpw:=pw.lt)
 (replace qpg:=pg.cell;replace rpg:=pg.frozen;replace lpg:=pg.lt)
 go_wp2_with fail
 refine (h_ctr D 1 _ (Xgm.below bel) (by omega) (by omega)).mono ?_
 rintro e w5 ⟨rfl,hBx⟩
 have hS:=bgo (w:=w4) bel hBx
 have zw5:=hBx.size
 try simp only[World.size_alloc] at zw5
 replace hB:=bgo hB hS
 replace pw:=pw.next hS
 replace pg:=pg.next hS
 replace Xw:=Xw.below hS
 replace Xgm:=Xgm.below hS
 clear hS hBx
 (replace qpw:=pw.cell;replace rpw:=pw.frozen;replace lpw:=pw.lt)
 (replace qpg:=pg.cell;replace rpg:=pg.frozen;replace lpg:=pg.lt)
 go_wp2_with fail
 refine (CG.out _ (HT.out.below (hB.trans (Below.refl _ _)))).mono ?_
 rintro e w6 ⟨rh0,rfl,Xh,hBx⟩
 obtain ⟨Ah,ch,Bh,dh,Eh,eh,Fh,fh,Gh,gh,rfl⟩:=Xh.form
 have hS:=bgo (w:=w5) bel hBx
 have zw6:=hBx.size
 try simp only[World.size_alloc] at zw6
 replace hB:=bgo hB hS
 replace pw:=pw.next hS
 replace pg:=pg.next hS
 replace Xw:=Xw.below hS
 replace Xgm:=Xgm.below hS
 clear hS hBx
 (replace qpw:=pw.cell;replace rpw:=pw.frozen;replace lpw:=pw.lt)
 (replace qpg:=pg.cell;replace rpg:=pg.frozen;replace lpg:=pg.lt)
 go_wp2_with fail
 refine (t_ctr _ _ D _ (Xh.below bel).reads (Xw.below bel).reads).mono ?_
 rintro e w7 ⟨rfl,hBx⟩
 have hS:=bgo (w:=w6) bel hBx
 have zw7:=hBx.size
 try simp only[World.size_alloc] at zw7
 replace hB:=bgo hB hS
 replace pw:=pw.next hS
 replace pg:=pg.next hS
 replace Xw:=Xw.below hS
 replace Xgm:=Xgm.below hS
 replace Xh:=Xh.below hS
 have ph:=Blk.next (g:=w6.heap.size) (t:=34) (cs:=#[.slice Ah D.pre.facts.length ch,.slice Bh D.pre.atoms.length dh,.slice Eh D.post.facts.length eh,.slice Fh D.post.atoms.length fh,.slice Gh D.changes.length gh]) blks hBx
 clear hS hBx
 (replace qpw:=pw.cell;replace rpw:=pw.frozen;replace lpw:=pw.lt)
 (replace qpg:=pg.cell;replace rpg:=pg.frozen;replace lpg:=pg.lt)
 (replace qph:=ph.cell;replace rph:=ph.frozen;replace lph:=ph.lt)
 go_wp2_with fail
 refine (h_ctr D 1 _ (Xgm.below bel) (by omega) (by omega)).mono ?_
 rintro e w8 ⟨rfl,hBx⟩
 have hS:=bgo (w:=w7) bel hBx
 have zw8:=hBx.size
 try simp only[World.size_alloc] at zw8
 replace hB:=bgo hB hS
 replace pw:=pw.next hS
 replace pg:=pg.next hS
 replace ph:=ph.next hS
 replace Xw:=Xw.below hS
 replace Xgm:=Xgm.below hS
 replace Xh:=Xh.below hS
 clear hS hBx
 (replace qpw:=pw.cell;replace rpw:=pw.frozen;replace lpw:=pw.lt)
 (replace qpg:=pg.cell;replace rpg:=pg.frozen;replace lpg:=pg.lt)
 (replace qph:=ph.cell;replace rph:=ph.frozen;replace lph:=ph.lt)
 go_wp2_with fail
 go_ret
 exact ⟨rfl,hB⟩
end Go.Proofs.YtjaohekkmlkinaaDoor
