/- 'laws.FnExactFormatContract' returns true for all arguments that can be read. -/
import Derived.Test.YtjaohekkmlkinaaDoorCtr
import Derived.Test.YtjaohekkmlkinaaDoorFmtC
import Derived.Deep.RegionHeld3
import Derived.Deep.DrawnRows
set_option linter.unusedSimpArgs false
set_option linter.unusedVariables false
set_option maxRecDepth 100000
set_option maxHeartbeats 25600000
namespace Go.Proofs.YtjaohekkmlkinaaDoor
section
open Go Go.RowKit Go.Proofs
theorem c_FnExactFormatContract (v0:Value) (a0:Ctr) (w:World) (hT:TN w) (h0:CtrR w v0 a0):Calls Tryd.prog 5 #[v0] w fun e w'=>e=.returned (.bool true)∧Below w.heap.size w w':=by
 have HT:=ax hT;clear hT;obtain ⟨A0,c0,B0,d0,E0,e0,F0,f0,G0,g0,rfl,r0a,r0b,r0c,r0d,r0e⟩:=h0;by_cases hs0:szC a0 1048576<0
 ·(go_enter Tryd.func5,Tryd.ntmps5);(go_wp2_with fail);refine (c_szContract _ a0 1048576 _ ⟨A0,c0,B0,d0,E0,e0,F0,f0,G0,g0,rfl,r0a,r0b,r0c,r0d,r0e⟩ (by omega) (by omega)).mono ?_;rintro e ws0 ⟨rfl,hB0⟩;have hB:=bgo (w:=w) bel hB0;have p0:=Blk.nz (g:=w.heap.size) (t:=44) (cs:=#[.slice A0 a0.pre.facts.length c0,.slice B0 a0.pre.atoms.length d0,.slice E0 a0.post.facts.length e0,.slice F0 a0.post.atoms.length f0,.slice G0 a0.changes.length g0]) blks hB0;(replace qp0:=p0.z);(go_wp2_with fail);go_ret;exact ⟨rfl,bel⟩
 have hz0:=szC_le hs0;have hlen:a0.pre.facts.length≤1048576∧a0.pre.atoms.length≤1048576∧a0.post.facts.length≤1048576∧a0.post.atoms.length≤1048576∧a0.changes.length≤1048576:=by omega
 clear hz0;obtain ⟨hL0,hL1,hL2,hL3,hL4⟩:=hlen;have hV0:aJ (CtrV w 0 w.heap.size (.agg #[.slice A0 a0.pre.facts.length c0,.slice B0 a0.pre.atoms.length d0,.slice E0 a0.post.facts.length e0,.slice F0 a0.post.atoms.length f0,.slice G0 a0.changes.length g0]) a0):=⟨_,_,_,_,_,_,rfl,⟨_,_,_,_,rfl,r0a.toV (by omega),r0b.toV (by omega)⟩,⟨_,_,_,_,rfl,r0c.toV (by omega),r0d.toV (by omega)⟩,r0e.toV (by omega)⟩;(go_enter Tryd.func5,Tryd.ntmps5);(go_wp2_with fail);refine (c_szContract _ a0 1048576 _ ⟨A0,c0,B0,d0,E0,e0,F0,f0,G0,g0,rfl,r0a,r0b,r0c,r0d,r0e⟩ (by omega) (by omega)).mono ?_;rintro e ws0 ⟨rfl,hB0⟩;have hB:=bgo (w:=w) bel hB0;have p0:=Blk.nz (g:=w.heap.size) (t:=44) (cs:=#[.slice A0 a0.pre.facts.length c0,.slice B0 a0.pre.atoms.length d0,.slice E0 a0.post.facts.length e0,.slice F0 a0.post.atoms.length f0,.slice G0 a0.changes.length g0]) blks hB0;(replace qp0:=p0.z);have zs:=hB.size;have zb0:=p0.lt;clear hB0;clear r0a r0b r0c r0d r0e;(go_wp2_with fail);refine (to_ctr _ a0 _ (hV0.o.bz bel)).mono ?_;rintro e w1 ⟨ys0,rfl,os0,hBx⟩;have hS:=bgo (w:=ws0) bel hBx;have zw1:=hBx.size;replace hB:=bgo hB hS;replace p0:=p0.nz hS;clear hS hBx;(replace qp0:=p0.z);(go_wp2_with fail);refine (c_sFC _ a0 _ (os0.bz bel).rj).mono ?_;rintro e w2 ⟨rfl,hBx⟩;have hS:=bgo (w:=w1) bel hBx;have zw2:=hBx.size;replace hB:=bgo hB hS;replace p0:=p0.nz hS;replace os0:=os0.bz hS;clear hS hBx;(replace qp0:=p0.z);clear os0;obtain ⟨sb,hsb⟩:∃ b,(fmtC a0)=b:=⟨_,rfl⟩;have HSB:=ax hsb;rw[hsb];clear hsb;(go_wp2_with fail);refine (to_ctr _ a0 _ (hV0.o.bz bel)).mono ?_;rintro e w3 ⟨y,rfl,X0,hBx⟩;have hS:=bgo (w:=w2) bel hBx;have zw3:=hBx.size;replace hB:=bgo hB hS;replace p0:=p0.nz hS;clear hS hBx;(replace qp0:=p0.z);obtain ⟨Ax0,cx0,Bx0,dx0,Ex0,ex0,Fx0,fx0,Gx0,gx0,rfl⟩:=X0.form;(go_wp2_with fail);refine (c_iFC _ a0 _ (HT.o.bz bel) (X0.bz bel).rj (Nat.le_refl _)).mono ?_;rintro e w4 ⟨rfl,hBx⟩;rw[HSB.o];have hS:=bgo (w:=w3) bel hBx;have zw4:=hBx.size;simp only[World.size_alloc] at zw4;replace hB:=bgo hB hS;replace p0:=p0.nz hS;replace X0:=X0.bz hS;have px0:=Blk.nz (g:=w3.heap.size) (t:=34) (cs:=#[.slice Ax0 a0.pre.facts.length cx0,.slice Bx0 a0.pre.atoms.length dx0,.slice Ex0 a0.post.facts.length ex0,.slice Fx0 a0.post.atoms.length fx0,.slice Gx0 a0.changes.length gx0]) blks hBx;clear hS hBx;(replace qp0:=p0.z);(replace qpx0:=px0.z);(go_wp2_with fail)
 go_region_held3 (fun w'=>(∀ i,w'.cell? ⟨w.heap.size,i,none⟩=#[.slice A0 a0.pre.facts.length c0,.slice B0 a0.pre.atoms.length d0,.slice E0 a0.post.facts.length e0,.slice F0 a0.post.atoms.length f0,.slice G0 a0.changes.length g0][i]?)∧(∀ i,w'.cell? ⟨w3.heap.size,i,none⟩=#[.slice Ax0 a0.pre.facts.length cx0,.slice Bx0 a0.pre.atoms.length dx0,.slice Ex0 a0.post.facts.length ex0,.slice Fx0 a0.post.atoms.length fx0,.slice Gx0 a0.changes.length gx0][i]?))
  (first|exact ⟨p0.cell,px0.cell⟩|exact ⟨p0.drew.cell,px0.drew.cell⟩)
  (first
   | (go_at_call 18;refine (to_ctr _ a0 _ (hV0.o.bz bel)).mono ?_;rintro e w5 ⟨y,rfl,oz,hBx⟩;have hS:Below w4.heap.size w4 w5:=bgo (Below.refl w4.heap.size w4).drew hBx;replace hB:=bgo hB hS;replace p0:=p0.drew.nz hBx;replace px0:=px0.drew.nz hBx)
   | (go_at_call 13;refine (t_ctr _ _ a0 _ (X0.bz hS).rj oz.rj).mono ?_;rintro e w6 ⟨rfl,hBx⟩;replace hS:=bgo hS hBx;replace hB:=bgo hB hBx;replace p0:=p0.nz hBx;replace px0:=px0.nz hBx))
 have zw6:=hS.size;replace X0:=X0.bz hS;clear hS oz;(replace qp0:=p0.z);(replace qpx0:=px0.z);(go_wp2_with fail);go_ret;exact ⟨rfl,hB⟩
end
end Go.Proofs.YtjaohekkmlkinaaDoor
