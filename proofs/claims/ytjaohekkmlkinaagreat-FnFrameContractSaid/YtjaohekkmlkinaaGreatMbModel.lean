/- What the reader draws: two contracts (spec.DrawRefines). -/
import Derived.Test.YtjaohekkmlkinaaGreatMbDrawCm
set_option linter.unusedSimpArgs false
set_option linter.unusedVariables false
set_option maxRecDepth 100000
set_option maxHeartbeats 25600000
namespace Go.Proofs.YtjaohekkmlkinaaGreat
section
open Go Go.RowKit Go.Proofs
attribute [local go_sem ↓] Go.wp_at_zero Go.wp_at_succ
section
variable {u u':World} {L g x lo hi:Nat} {v:Value} {m:Ctr}
theorem CtrV.frk0 (h:CtrV u lo hi v m) (hf:Fr g u u') (hg:g<lo):CtrV u' lo hi v m:=by
 obtain ⟨a1,a2,a3,a4,A5,c5,e,g1,g2,g3⟩:=h;refine ⟨a1,a2,a3,a4,A5,c5,e,?_,?_,Rd.fr g3 hf (.inl hg)⟩
 ·obtain ⟨A1,c1,A2,c2,e,h1,h2⟩:=g1;exact ⟨A1,c1,A2,c2,e,Rd.fr h1 hf (.inl hg),Rd.fr h2 hf (.inl hg)⟩
 ·obtain ⟨A1,c1,A2,c2,e,h1,h2⟩:=g2;exact ⟨A1,c1,A2,c2,e,Rd.fr h1 hf (.inl hg),Rd.fr h2 hf (.inl hg)⟩
end
theorem AsnV.s52 {w:World} {lo hi x:Nat} {v:Value} {a:Asn} (h:AsnV w lo hi v a) (hp:x<lo∨hi≤x) (v0 v1:Value):AsnV ((w.setCell ⟨x,0,none⟩ v0).setCell ⟨x,1,none⟩ v1) lo hi v a:=(h.setb (p:=⟨x,0,none⟩) hp v0).setb (p:=⟨x,1,none⟩) hp v1
theorem CtrV.s52 {w:World} {lo hi x:Nat} {v:Value} {k:Ctr} (h:CtrV w lo hi v k) (hp:x<lo∨hi≤x) (v0 v1:Value):CtrV ((w.setCell ⟨x,0,none⟩ v0).setCell ⟨x,1,none⟩ v1) lo hi v k:=by
 obtain ⟨a1,a2,a3,a4,A5,c5,e,g1,g2,g3⟩:=h;exact ⟨a1,a2,a3,a4,A5,c5,e,g1.s52 hp _ _,g2.s52 hp _ _,Rd.setb (Rd.setb g3 (p:=⟨x,0,none⟩) hp v0) (p:=⟨x,1,none⟩) hp v1⟩
theorem c_DrawFrameCtr (A:Option Addr) (n c:Nat) (w:World) (h:BytesR w A n c) :
  Calls Tryz.prog 37 #[.slice A n c] w fun e w'=>∃ v1 v2 k f,e=.returned (.tuple #[v1,v2])∧CtrV w' w.heap.size w'.heap.size v1 k∧AsnV w' w.heap.size w'.heap.size v2 f∧Below w.heap.size w w':=by
 have HBy:aJ (∀ W,Below w.heap.size w W→BytesR W A n c):=ax fun W hW=>by
  obtain ⟨bs,h1,h2,h3⟩:=h;exact ⟨bs,h1,(h2.bz hW).mono (Nat.le_refl _) hW.size,h3⟩
 clear h;(go_enter Tryz.func37,Tryz.ntmps37);(go_upto_region 1 with fail);refine bx2 (w:=w) (F:=Code.wp _ _ _ _) ?_;rintro W k2 k3 hB hz;(go_wp2_with fail);refine (c_l18Open A n c _ (HBy.o W hB)).mono ?_;rintro e w1 ⟨g,rfl,hg,hR,hq⟩;have hz1:=hq.size;have lg:=hR.lt;have HF:aJ (Fr g w w1):=ax ((Fr.ofBelow hB).go hq);have HR:=ax hR;replace k2:=k2.nz hq;replace k3:=k3.nz hq;clear hR hq hB HBy;(go_wp2_with fail);refine (c_l12Draw g 0 _ HR.o (by omega)).mono ?_;rintro e w2 ⟨A1,c1,n1,v,k,q,rfl,hk,⟨hk1,hk2⟩,⟨hk3,hk4⟩,hk5,hR,hq,hf⟩;have hz2:=hf.size;replace k2:=k2.fr hf (by omega);replace k3:=k3.fr hf (by omega);replace HF:=ax (HF.o.trans hf);obtain ⟨K1,K2,K3,K4,K5,K6,K7,K8,K9,K0,ee⟩:=hk.form;subst ee;have ky:=Blk.new w2 69 #[.slice K1 k.pre.facts.length K2,.slice K3 k.pre.atoms.length K4,.slice K5 k.post.facts.length K6,.slice K7 k.post.atoms.length K8,.slice K9 k.changes.length K0];have hbx:=bbox (Below.refl _ w2) (.cells #[.slice K1 k.pre.facts.length K2,.slice K3 k.pre.atoms.length K4,.slice K5 k.post.facts.length K6,.slice K7 k.post.atoms.length K8,.slice K9 k.changes.length K0] 69);have HK:=ax (hk.bz hbx);replace HR:=ax (hR.bz hbx);replace HF:=ax (HF.o.go hbx);replace k2:=k2.nz hbx;replace k3:=k3.nz hbx;have hzb:w2.heap.size<(w2.alloc (.cells #[.slice K1 k.pre.facts.length K2,.slice K3 k.pre.atoms.length K4,.slice K5 k.post.facts.length K6,.slice K7 k.post.atoms.length K8,.slice K9 k.changes.length K0] 69)).heap.size:=by simp
 obtain ⟨L0,hL0⟩:∃ L0,L0=w1.heap.size:=⟨_,rfl⟩;rw[←hL0] at HK hz2 hz1 lg;clear hk hR hf hbx hL0;(go_upto_region 3 with fail);generalize (w2.alloc (.cells #[.slice K1 k.pre.facts.length K2,.slice K3 k.pre.atoms.length K4,.slice K5 k.post.facts.length K6,.slice K7 k.post.atoms.length K8,.slice K9 k.changes.length K0] _))=V at *;obtain ⟨y6,hyy⟩:∃ y,y=w2.heap.size:=⟨_,rfl⟩;rw[←hyy] at ky hz2 HK hzb ⊢;clear hyy;(go_wp2_with fail);refine (c_pick g q 2 _ HR.o (by omega)).mono ?_;rintro e w3 ⟨m,rfl,hm,hR,hf⟩;have hs3:=hf.size;replace k2:=k2.fr hf (by omega);replace k3:=k3.fr hf (by omega);replace ky:=ky.fr hf (by omega);replace HK:=ax (HK.o.frk0 hf (by omega));replace HF:=ax (HF.o.trans hf);replace HR:=ax hR;clear hR hf;have hm2:(m:Int)<2:=by omega
 clear hm;(go_wp2_with fail);have kl:=Blk.new w3 tI #[.int .i64 7,.int .i64 4,.int .i64 6,.int .i64 1];have hbl:=bbox (Below.refl _ w3) (.cells #[.int .i64 7,.int .i64 4,.int .i64 6,.int .i64 1] tI);refine (c_numL g (q+1) [7,4,6,1] w3.heap.size 4 _ _ (HR.o.bz hbl) (by omega) kl (by rfl) (by omega) (by rfl) (by decide) (by decide)).mono ?_;rintro e w4 ⟨n1,hn1,rfl,hR,hf0⟩;have hf:Fr g w3 w4:=(Fr.ofBelow hbl).trans hf0;have hs4:=hf.size;replace k2:=k2.fr hf (by omega);replace k3:=k3.fr hf (by omega);replace ky:=ky.fr hf (by omega);replace HK:=ax (HK.o.frk0 hf (by omega));replace HF:=ax (HF.o.trans hf);replace HR:=ax hR;clear hR hf hf0 hbl kl hn1;(go_wp2_with fail);have kl:=Blk.new w4 tI #[.int .i64 0,.int .i64 8,.int .i64 2];have hbl:=bbox (Below.refl _ w4) (.cells #[.int .i64 0,.int .i64 8,.int .i64 2] tI);refine (c_numL g (q+2) [0,8,2] w4.heap.size 3 _ _ (HR.o.bz hbl) (by omega) kl (by rfl) (by omega) (by rfl) (by decide) (by decide)).mono ?_;rintro e w5 ⟨n2,hn2,rfl,hR,hf0⟩;have hf:Fr g w4 w5:=(Fr.ofBelow hbl).trans hf0;have hs5:=hf.size;replace k2:=k2.fr hf (by omega);replace k3:=k3.fr hf (by omega);replace ky:=ky.fr hf (by omega);replace HK:=ax (HK.o.frk0 hf (by omega));replace HF:=ax (HF.o.trans hf);replace HR:=ax hR;clear hR hf hf0 hbl kl hn2;(go_upto_region 4 with fail);have kx:=Blk.new w5 tA #[.int .i64 (1+(m:Int)),.int .i64 n1,.int .i64 n2];have hbx:=bbox (bbox (Below.refl _ w5) (.cells #[.int .i64 (1+(m:Int)),.int .i64 n1,.int .i64 n2] tA)) (.cells #[.slice none 0 0,.slice (some ⟨w5.heap.size,0,none⟩) 1 1] tAs);obtain ⟨-,kf⟩:=blk2 w5 tA tAs #[.int .i64 (1+(m:Int)),.int .i64 n1,.int .i64 n2] #[.slice none 0 0,.slice (some ⟨w5.heap.size,0,none⟩) 1 1];have HFV:aJ (AsnV ((w5.alloc (.cells #[.int .i64 (1+(m:Int)),.int .i64 n1,.int .i64 n2] tA)).alloc (.cells #[.slice none 0 0,.slice (some ⟨w5.heap.size,0,none⟩) 1 1] tAs)) w5.heap.size (w5.heap.size+1) (.agg #[.slice none 0 0,.slice (some ⟨w5.heap.size,0,none⟩) 1 1]) ⟨[],[⟨1+(m:Int),n1,n2⟩]⟩):=ax ⟨none,0,some ⟨w5.heap.size,0,none⟩,1,rfl,Rd.nil _ _ _ _ _,AtomsV.oneB (kx.alloc _)⟩;replace k2:=k2.nz hbx;replace k3:=k3.nz hbx;replace ky:=ky.nz hbx;replace HK:=ax (HK.o.bz hbx);replace HF:=ax (HF.o.go hbx);replace HR:=ax (HR.o.bz hbx);have hzf:w5.heap.size+2≤((w5.alloc (.cells #[.int .i64 (1+(m:Int)),.int .i64 n1,.int .i64 n2] tA)).alloc (.cells #[.slice none 0 0,.slice (some ⟨w5.heap.size,0,none⟩) 1 1] tAs)).heap.size:=by simp
 clear kx hbx;generalize ((w5.alloc (.cells #[.int .i64 (1+(m:Int)),.int .i64 n1,.int .i64 n2] _)).alloc (.cells #[.slice none 0 0,.slice (some ⟨w5.heap.size,0,none⟩) 1 1] _))=V4 at *;obtain ⟨yf,hyf⟩:∃ y,y=w5.heap.size:=⟨_,rfl⟩;rw[←hyf] at kf HFV hzf hs5 ⊢;clear hyf;(replace qky:=ky.z;replace qkf:=kf.z);(go_wp2_with fail);clear qky qkf;refine wp_region_noPanic ?_;refine wp_region_held_drew (S:=(fun w'=>(∀ i,w'.cell? ⟨y6,i,none⟩=#[.slice K1 k.pre.facts.length K2,.slice K3 k.pre.atoms.length K4,.slice K5 k.post.facts.length K6,.slice K7 k.post.atoms.length K8,.slice K9 k.changes.length K0][i]?)∧(∀ i,w'.cell? ⟨yf+1,i,none⟩=#[.slice none 0 0,.slice (some ⟨yf,0,none⟩) 1 1][i]?))) (by kernel_rfl) (⟨ky.drew.cell,kf.drew.cell⟩) (fun aH=>?_);have hdr:Below V4.heap.size V4 V4.drew:=(Below.refl _ _).drew;replace k2:=k2.nz hdr;replace k3:=k3.nz hdr;replace ky:=ky.nz hdr;replace HK:=ax (HK.o.bz hdr);replace HF:=ax (HF.o.go hdr);replace HR:=ax (HR.o.bz hdr);replace kf:=kf.nz hdr;replace HFV:=ax (HFV.o.bz hdr);have hsd:V4.heap.size≤V4.drew.heap.size:=Nat.le_refl _;clear hdr;generalize V4.drew=V5 at *;refine tk2 0 rfl aH (h:=tk2 1 rfl aH (h:=tk2 3 rfl aH (h:=?_)));(try simp only[zz]);refine tk2 4 rfl aH (h:=?_);refine rdc 2 rfl fun K hK=>?_;(try simp only[zz]);(go_simp;refine (c_l12Mutate g _ _ k _ HR.o (by omega) HK.o ⟨by omega,by omega⟩ ⟨by omega,by omega⟩ (by omega)).mono ?_;rintro e u6 ⟨r6,x1,q6,rfl,h6,hR,hq6,hf⟩;have hs6:=hf.size;replace k2:=k2.fr hf (by omega);replace k3:=k3.fr hf (by omega);replace ky:=ky.fr hf (by omega);replace kf:=kf.fr hf (by omega);replace HFV:=ax (HFV.o.frk0 hf (by omega) (by omega));replace HF:=ax (HF.o.trans hf);replace HR:=ax hR;have H6:=ax h6;clear h6 hR hf HK);refine hK.out _ _ (⟨ky.cell,kf.cell⟩) ?_;clear aH hK K;intro aH;refine rdc 5 rfl fun K hK=>?_;(try simp only[zz]);(go_simp;refine (c_l3Mutate g q6 _ ⟨[],[⟨1+(m:Int),n1,n2⟩]⟩ _ HR.o (by omega) HFV.o (by simp) (by simp)).mono ?_;rintro e u7 ⟨r7,f2,q7,rfl,o7,-,-,hR,hq7,hf⟩;have hs7:=hf.size;replace k2:=k2.fr hf (by omega);replace k3:=k3.fr hf (by omega);replace ky:=ky.fr hf (by omega);replace kf:=kf.fr hf (by omega);replace H6:=ax (H6.o.frk0 hf (by omega));replace HF:=ax (HF.o.trans hf);have H7:=ax o7.rj;clear o7 hR hf HFV HR);refine hK.out _ _ (⟨ky.cell,kf.cell⟩) ?_;clear aH hK K;intro aH;(try simp only[zz]);obtain ⟨R1,R2,R3,R4,R5,R6,R7,R8,R9,R0,e6⟩:=H6.o.form;obtain ⟨T1,T2,T3,T4,e7,-,-⟩:=id H7.o;subst e6 e7;have hn2:y6≠w.heap.size:=by omega
 have hn3:yf+1≠w.heap.size:=by omega
 have hn4:y6≠w.heap.size+1:=by omega
 have hn5:yf+1≠w.heap.size+1:=by omega
 have hn6:w.heap.size+1≠w.heap.size:=by omega
 have hn7:w.heap.size≠w.heap.size+1:=by omega
 (replace qk2:=k2.z;replace qk3:=k3.z);refine rdc 6 rfl fun K hK=>?_;(try simp only[zz]);go_simp;refine hK.out _ _ (⟨(((((ky.far (p:=⟨w.heap.size,0,none⟩) (fun e=>hn2 e) (.slice R1 x1.pre.facts.length R2)).far (p:=⟨w.heap.size,1,none⟩) (fun e=>hn2 e) (.slice R3 x1.pre.atoms.length R4)).far (p:=⟨w.heap.size,2,none⟩) (fun e=>hn2 e) (.slice R5 x1.post.facts.length R6)).far (p:=⟨w.heap.size,3,none⟩) (fun e=>hn2 e) (.slice R7 x1.post.atoms.length R8)).far (p:=⟨w.heap.size,4,none⟩) (fun e=>hn2 e) (.slice R9 x1.changes.length R0)).cell,(((((kf.far (p:=⟨w.heap.size,0,none⟩) (fun e=>hn3 e) (.slice R1 x1.pre.facts.length R2)).far (p:=⟨w.heap.size,1,none⟩) (fun e=>hn3 e) (.slice R3 x1.pre.atoms.length R4)).far (p:=⟨w.heap.size,2,none⟩) (fun e=>hn3 e) (.slice R5 x1.post.facts.length R6)).far (p:=⟨w.heap.size,3,none⟩) (fun e=>hn3 e) (.slice R7 x1.post.atoms.length R8)).far (p:=⟨w.heap.size,4,none⟩) (fun e=>hn3 e) (.slice R9 x1.changes.length R0)).cell⟩) ?_;clear aH hK K;intro aH;(try simp only[zz]);have j2:=(((((k2.set_ 0 (.slice R1 x1.pre.facts.length R2)).set_ 1 (.slice R3 x1.pre.atoms.length R4)).set_ 2 (.slice R5 x1.post.facts.length R6)).set_ 3 (.slice R7 x1.post.atoms.length R8)).set_ 4 (.slice R9 x1.changes.length R0));have j3:=(((((k3.far (p:=⟨w.heap.size,0,none⟩) (fun e=>hn6 e) (.slice R1 x1.pre.facts.length R2)).far (p:=⟨w.heap.size,1,none⟩) (fun e=>hn6 e) (.slice R3 x1.pre.atoms.length R4)).far (p:=⟨w.heap.size,2,none⟩) (fun e=>hn6 e) (.slice R5 x1.post.facts.length R6)).far (p:=⟨w.heap.size,3,none⟩) (fun e=>hn6 e) (.slice R7 x1.post.atoms.length R8)).far (p:=⟨w.heap.size,4,none⟩) (fun e=>hn6 e) (.slice R9 x1.changes.length R0));have jy:=(((((ky.far (p:=⟨w.heap.size,0,none⟩) (fun e=>hn2 e) (.slice R1 x1.pre.facts.length R2)).far (p:=⟨w.heap.size,1,none⟩) (fun e=>hn2 e) (.slice R3 x1.pre.atoms.length R4)).far (p:=⟨w.heap.size,2,none⟩) (fun e=>hn2 e) (.slice R5 x1.post.facts.length R6)).far (p:=⟨w.heap.size,3,none⟩) (fun e=>hn2 e) (.slice R7 x1.post.atoms.length R8)).far (p:=⟨w.heap.size,4,none⟩) (fun e=>hn2 e) (.slice R9 x1.changes.length R0));have jb:=(((((kf.far (p:=⟨w.heap.size,0,none⟩) (fun e=>hn3 e) (.slice R1 x1.pre.facts.length R2)).far (p:=⟨w.heap.size,1,none⟩) (fun e=>hn3 e) (.slice R3 x1.pre.atoms.length R4)).far (p:=⟨w.heap.size,2,none⟩) (fun e=>hn3 e) (.slice R5 x1.post.facts.length R6)).far (p:=⟨w.heap.size,3,none⟩) (fun e=>hn3 e) (.slice R7 x1.post.atoms.length R8)).far (p:=⟨w.heap.size,4,none⟩) (fun e=>hn3 e) (.slice R9 x1.changes.length R0));have G6:=ax (H6.o.s5 (x:=w.heap.size) (.inl (by omega)) (.slice R1 x1.pre.facts.length R2) (.slice R3 x1.pre.atoms.length R4) (.slice R5 x1.post.facts.length R6) (.slice R7 x1.post.atoms.length R8) (.slice R9 x1.changes.length R0));have G7:=ax (AsnV.s5 (x:=w.heap.size) H7.o (.inl (by omega)) (.slice R1 x1.pre.facts.length R2) (.slice R3 x1.pre.atoms.length R4) (.slice R5 x1.post.facts.length R6) (.slice R7 x1.post.atoms.length R8) (.slice R9 x1.changes.length R0));have GF:=ax (HF.o.s5 (x:=w.heap.size) (Nat.le_refl _) (.slice R1 x1.pre.facts.length R2) (.slice R3 x1.pre.atoms.length R4) (.slice R5 x1.post.facts.length R6) (.slice R7 x1.post.atoms.length R8) (.slice R9 x1.changes.length R0));have hsz:((((((u7.setCell ⟨w.heap.size,0,none⟩ (.slice R1 x1.pre.facts.length R2)).setCell ⟨w.heap.size,1,none⟩ (.slice R3 x1.pre.atoms.length R4)).setCell ⟨w.heap.size,2,none⟩ (.slice R5 x1.post.facts.length R6)).setCell ⟨w.heap.size,3,none⟩ (.slice R7 x1.post.atoms.length R8)).setCell ⟨w.heap.size,4,none⟩ (.slice R9 x1.changes.length R0))).heap.size=u7.heap.size:=by simp
 clear H6 H7 HF k2 k3 ky kf qk2 qk3;generalize ((((((u7.setCell ⟨w.heap.size,0,none⟩ (.slice R1 x1.pre.facts.length R2)).setCell ⟨w.heap.size,1,none⟩ (.slice R3 x1.pre.atoms.length R4)).setCell ⟨w.heap.size,2,none⟩ (.slice R5 x1.post.facts.length R6)).setCell ⟨w.heap.size,3,none⟩ (.slice R7 x1.post.atoms.length R8)).setCell ⟨w.heap.size,4,none⟩ (.slice R9 x1.changes.length R0)))=U1 at *;have qj3:=j3.cell;have rj3:=j3.frozen;have lj3:=j3.lt;refine rdc 7 rfl fun K hK=>?_;(try simp only[zz]);go_simp;refine hK.out _ _ (⟨((jy.far (p:=⟨w.heap.size+1,0,none⟩) (fun e=>hn4 e) (.slice T1 f2.facts.length T2)).far (p:=⟨w.heap.size+1,1,none⟩) (fun e=>hn4 e) (.slice T3 f2.atoms.length T4)).cell,((jb.far (p:=⟨w.heap.size+1,0,none⟩) (fun e=>hn5 e) (.slice T1 f2.facts.length T2)).far (p:=⟨w.heap.size+1,1,none⟩) (fun e=>hn5 e) (.slice T3 f2.atoms.length T4)).cell⟩) ?_;clear aH hK K;intro aH;(try simp only[zz]);refine dn1 ?_;have z2:=((j2.far (p:=⟨w.heap.size+1,0,none⟩) (fun e=>hn7 e) (.slice T1 f2.facts.length T2)).far (p:=⟨w.heap.size+1,1,none⟩) (fun e=>hn7 e) (.slice T3 f2.atoms.length T4)).cell;have z3:=((j3.set_ 0 (.slice T1 f2.facts.length T2)).set_ 1 (.slice T3 f2.atoms.length T4)).cell;have L6:=G6.o.s52 (x:=w.heap.size+1) (.inl (by omega)) (.slice T1 f2.facts.length T2) (.slice T3 f2.atoms.length T4);have L7:=G7.o.s52 (x:=w.heap.size+1) (.inl (by omega)) (.slice T1 f2.facts.length T2) (.slice T3 f2.atoms.length T4);have LF:=(GF.o.set_ (p:=⟨w.heap.size+1,0,none⟩) (.inr (by simp only;omega)) (.slice T1 f2.facts.length T2)).set_ (p:=⟨w.heap.size+1,1,none⟩) (.inr (by simp only;omega)) (.slice T3 f2.atoms.length T4);have hsw:(((U1.setCell ⟨w.heap.size+1,0,none⟩ (.slice T1 f2.facts.length T2)).setCell ⟨w.heap.size+1,1,none⟩ (.slice T3 f2.atoms.length T4))).heap.size=U1.heap.size:=by simp
 clear j2 j3 jy jb G6 G7 GF qj3 rj3 lj3 aH;(go_wp2_with fail);refine bodyPost_ret (v:=.tuple #[.agg #[.slice R1 x1.pre.facts.length R2,.slice R3 x1.pre.atoms.length R4,.slice R5 x1.post.facts.length R6,.slice R7 x1.post.atoms.length R8,.slice R9 x1.changes.length R0],.agg #[.slice T1 f2.facts.length T2,.slice T3 f2.atoms.length T4]]) (by simp[results,Tryz.results37,go_sem,z2,z3]) rfl ?_;refine ⟨_,_,x1,f2,rfl,?_,?_,LF.bz (by omega) (Nat.le_refl _)⟩
 ·rw[hsw];exact L6.mono (by omega) (by omega)
 ·rw[hsw];exact L7.mono (by omega) (by omega)
end
section
open Go Go.RowKit
def maskA (m:Nat):Nat→List Atm→List Atm
 | _,[]=>[]
 | i,x :: xs=>if m.testBit i then x :: maskA m (i+1) xs else maskA m (i+1) xs
def pickA (a:Asn) (m:Nat):Asn:=⟨[],maskA m 0 a.atoms⟩
def seekM (p:Nat→Bool):Nat→Nat→Option Nat
 | 0,_=>none
 | n+1,m=>if p m then some m else seekM p n (m+1)
def frB (a b:Asn) (m:Nat):Bool:=entF a (starA b (pickA a m))
def frM (a b:Asn):Option Nat:=seekM (frB a b) (2 ^ a.atoms.length) 0
def frameF (a b:Asn):Option Asn:=if a.valid&&b.valid then (frM a b).map (pickA a) else none
theorem maskA_len (m:Nat):∀ (xs:List Atm) (i:Nat),(maskA m i xs).length≤xs.length
 | [],_=>Nat.le_refl _
 | x :: xs,i=>by
  unfold maskA;have:=maskA_len m xs (i+1)
  split
  ·simp only[List.length_cons];omega
  ·simp only[List.length_cons];omega
theorem maskA_mem {m:Nat} {x:Atm}:∀ {xs:List Atm} {i:Nat},x∈maskA m i xs→x∈xs
 | [],_,h=>h
 | y :: xs,i,h=>by
  unfold maskA at h
  split at h
  ·rcases List.mem_cons.1 h with rfl|h
   ·exact List.mem_cons_self
   ·exact List.mem_cons_of_mem _ (maskA_mem h)
  ·exact List.mem_cons_of_mem _ (maskA_mem h)
theorem pickA_valid {a:Asn} (h:a.valid=true) (m:Nat):(pickA a m).valid=true:=by
 simp only[Asn.valid,factsValid,Bool.and_eq_true,decide_eq_true_eq,List.all_eq_true] at h ⊢;exact ⟨⟨Nat.zero_le _,fun _ h=>by cases h⟩,Nat.le_trans (maskA_len m _ 0) h.2.1,fun x hx=>h.2.2 x (maskA_mem hx)⟩
theorem frB_star {a b:Asn} (ha:a.valid=true) (hb:b.valid=true) (m:Nat):frB a b m=((starF b (pickA a m)).isSome&&entF a ((starF b (pickA a m)).getD ⟨[],[]⟩)):=by
 unfold starF;rw[hb,pickA_valid ha];unfold frB;cases h:(starA b (pickA a m)).valid
 ·rw[show (true&&true&&false)=false from rfl];simp only[Bool.false_eq_true,if_false,Option.isSome_none,Bool.false_and];unfold entF;rw[h,Bool.and_false,Bool.false_and]
 ·rfl
theorem seekM_lt {p:Nat→Bool}:∀ {n m k:Nat},seekM p n m=some k→m≤k∧k<m+n∧p k=true
 | 0,_,_,h=>by cases h
 | n+1,m,k,h=>by
  unfold seekM at h
  split at h
  ·rename_i hp;injection h with h;subst h;exact ⟨Nat.le_refl _,by omega,hp⟩
  ·have:=seekM_lt h;exact ⟨by omega,by omega,this.2.2⟩
theorem seekM_step {p:Nat→Bool} {N k:Nat} (hk:k<N):seekM p (N - k) k=if p k then some k else seekM p (N - (k+1)) (k+1):=by
 rw[show N - k=(N - (k+1))+1 by omega,seekM]
end
section
open Go
def fillM (M:Int→Int) (x:Atm):Bool:=decide (x.kind=1) || !decide (M x.a=M x.b)
structure Sat (M:Int→Int) (a:Asn):Prop where
 facts:∀ f∈a.facts,decide (M f.a=M f.b)=f.eq
 nil:∀ x∈a.atoms,fillM M x=true→M x.a≠M 0
 apart:((a.atoms.filter (fillM M)).map fun x=>M x.a).Nodup
theorem case_zero {a:Asn} {S:Nat} (hS:S.testBit 0=true) {d:List Int} (h:d∈cases a S):cl d 0=0:=by
 unfold cases at h;have hd:=(List.mem_filter.1 h).1;have:=((gen_ok S 9 zeros d (by omega) rfl hd).2.2 0 (by omega) (by omega)).1 hS;have h2:cl d ((0:Nat):Int)=cl d 0:=rfl;omega
theorem inLast_fillM {x:Atm} {c:List Int} (h:(0≤x.a∧x.a≤8)∧(0≤x.b∧x.b≤8)):inLast c 8 x=fillM (cl c) x:=by
 unfold inLast fillM Atm.fill;rw[decide_eq_true h.1.2,decide_eq_true h.2.2];rfl
theorem case_sat {a:Asn} (hv:a.valid=true) {S:Nat} (hS:S.testBit 0=true) {d:List Int} (h:d∈cases a S):Sat (cl d) a:=by
 have h0:=case_zero hS h;have hok:=Asn.valid_ok hv;unfold cases at h;have hf:=(List.mem_filter.1 h).2;have hp:=hf;rw[full_poss hok.1 hok.2] at hp;unfold poss at hp;unfold full at hf;rw[Bool.and_eq_true] at hf hp;have hA:=(possA_iff _ _ _ _).1 hp.2;refine ⟨fun f hm=>?_,fun x hm hfi=>?_,?_⟩
 ·have:=List.all_eq_true.1 hf.1 f hm;unfold Fct.fits at this;exact eq_of_beq this
 ·rw[h0];exact (hA.1 x hm (by rw[inLast_fillM (hok.2 x hm)];exact hfi)).1
 ·rw[←List.filter_congr fun x hm=>inLast_fillM (hok.2 x hm)];exact hA.2
def leastM (M:Int→Int) (S j:Nat):Nat:=((List.range (j+1)).find? fun k=>S.testBit k&&decide (M (k:Int)=M (j:Int))).getD j
def canon (M:Int→Int) (S:Nat):List Int:=(List.range 9).map fun j=>if S.testBit j then ((leastM M S j:Nat):Int) else -1
theorem least_spec {M:Int→Int} {S j:Nat} (hj:S.testBit j=true):leastM M S j≤j∧S.testBit (leastM M S j)=true∧M (leastM M S j:Nat)=M j∧∀ k,k<leastM M S j→S.testBit k=true→M (k:Nat)≠M j:=by
 unfold leastM
 cases h:(List.range (j+1)).find? fun k=>S.testBit k&&decide (M (k:Int)=M (j:Int)) with
 | none=>
  have:=List.find?_eq_none.1 h j (by simp);simp[hj] at this
 | some k=>
  obtain ⟨h1,h2,h3⟩:=List.find?_range_eq_some.1 h;simp only[Bool.and_eq_true,decide_eq_true_eq] at h1;refine ⟨by have:=List.mem_range.1 h2;simp only[Option.getD_some];omega,h1.1,h1.2,fun i hi hb e=>?_⟩;have:=h3 i hi;simp[hb,e] at this
theorem least_eq {M:Int→Int} {S i j:Nat} (hi:S.testBit i=true) (hj:S.testBit j=true):leastM M S i=leastM M S j↔M (i:Nat)=M (j:Nat):=by
 have h1:=least_spec (M:=M) hi;have h2:=least_spec (M:=M) hj;constructor
 ·intro e;rw[←h1.2.2.1,e,h2.2.2.1]
 ·intro e;rcases Nat.lt_trichotomy (leastM M S i) (leastM M S j) with h|h|h
  ·exact absurd (h1.2.2.1.trans e) (h2.2.2.2 _ h h1.2.1)
  ·exact h
  ·exact absurd (h2.2.2.1.trans e.symm) (h1.2.2.2 _ h h2.2.1)
theorem canon_length (M:Int→Int) (S:Nat):(canon M S).length=9:=by simp[canon]
theorem cl_canon {M:Int→Int} {S j:Nat} (hj:j<9):cl (canon M S) (j:Int)=if S.testBit j then ((leastM M S j:Nat):Int) else -1:=by
 unfold cl canon;rw[Int.toNat_natCast,List.getElem?_map,List.getElem?_range hj];rfl
theorem canon_gen (M:Int→Int) (S:Nat):∀ (n:Nat) (c:List Int),n≤9→c.length=9→(∀ j:Nat,j<9 - n→cl c j=cl (canon M S) j)→canon M S∈gen S n c:=by
 intro n
 induction n with
 | zero=>
  intro c _ hc h;unfold gen;rw[List.mem_singleton];apply List.ext_getElem (by rw[hc];exact canon_length M S);intro j h1 h2;have:=h j (by omega);simpa[cl,List.getElem?_eq_getElem h1,List.getElem?_eq_getElem h2] using this.symm
 | succ n ih=>
  intro c hn hc h;unfold gen;cases e:S.testBit (8 - n)
  ·simp only[Bool.false_eq_true,if_false];refine ih _ (by omega) (by simpa using hc) fun j hj=>?_;rw[cl_set hc (by omega) _ (by omega)]
   split
   ·rename_i hj';have:j=8 - n:=by omega
    subst this;rw[cl_canon (by omega),e];rfl
   ·exact h j (by omega)
  ·rw[if_pos rfl,List.mem_flatMap];have hl:=least_spec (M:=M) e;refine ⟨leastM M S (8 - n),by rw[List.mem_range];omega,?_⟩;rw[if_neg]
   ·refine ih _ (by omega) (by simpa using hc) fun j hj=>?_;rw[cl_set hc (by omega) _ (by omega)]
    split
    ·rename_i hj';have:j=8 - n:=by omega
     subst this;rw[cl_canon (by omega),e];rfl
    ·exact h j (by omega)
   ·rintro ⟨hlt,hne⟩;apply hne;rw[h _ (by omega),cl_canon (by omega),hl.2.1,if_pos rfl]
    congr 1
    exact (least_eq hl.2.1 e).2 hl.2.2.1
theorem cl_canon_eq {M:Int→Int} {S:Nat} {s t:Int} (hs:(0≤s∧s≤8)∧S.testBit s.toNat=true) (ht:(0≤t∧t≤8)∧S.testBit t.toNat=true):cl (canon M S) s=cl (canon M S) t↔M s=M t:=by
 obtain ⟨i,rfl⟩:=Int.eq_ofNat_of_zero_le hs.1.1;obtain ⟨j,rfl⟩:=Int.eq_ofNat_of_zero_le ht.1.1;rw[Int.toNat_natCast] at hs ht;rw[cl_canon (by omega),cl_canon (by omega),hs.2,ht.2,if_pos rfl,if_pos rfl,Int.natCast_inj];exact least_eq hs.2 ht.2
theorem sat_case {a:Asn} (hv:a.valid=true) {S:Nat} (h0:S.testBit 0=true) (hS:∀ t∈mz a,S.testBit t.toNat=true) {M:Int→Int} (h:Sat M a):canon M S∈cases a S:=by
 have hok:=Asn.valid_ok hv;have hF:∀ f∈a.facts,S.testBit f.a.toNat=true∧S.testBit f.b.toNat=true:=fun f hf=>⟨hS _ (termsL_facts hf).1,hS _ (termsL_facts hf).2⟩
 have hX:∀ x∈a.atoms,S.testBit x.a.toNat=true∧S.testBit x.b.toNat=true:=fun x hx=>by
  have:x.a∈mz a∧x.b∈mz a:=by
   simp only[mz,List.mem_append,List.mem_flatMap];exact ⟨Or.inr ⟨x,hx,by simp[atomT]⟩,Or.inr ⟨x,hx,by simp[atomT]⟩⟩
  exact ⟨hS _ this.1,hS _ this.2⟩
 have hfill:∀ x∈a.atoms,inLast (canon M S) 8 x=fillM M x:=fun x hx=>by
  rw[inLast_fillM (hok.2 x hx)];unfold fillM
  congr 2
  rw[decide_eq_decide];exact cl_canon_eq ⟨(hok.2 x hx).1,(hX x hx).1⟩ ⟨(hok.2 x hx).2,(hX x hx).2⟩
 unfold cases;rw[List.mem_filter];refine ⟨canon_gen M S 9 zeros (by omega) rfl (fun j hj=>by omega),?_⟩;rw[full_poss hok.1 hok.2];unfold poss;rw[Bool.and_eq_true];constructor
 ·unfold possF;rw[List.all_eq_true];intro f hf
  have:f.fits (canon M S)=true:=by
   unfold Fct.fits;rw[beq_iff_eq,←h.facts f hf,decide_eq_decide];exact cl_canon_eq ⟨(hok.1 f hf).1,(hF f hf).1⟩ ⟨(hok.1 f hf).2,(hF f hf).2⟩
  rw[this];simp
 ·rw[possA_iff];refine ⟨fun x hx hi=>⟨fun e=>?_,by simp⟩,?_⟩
  ·rw[hfill x hx] at hi;refine h.nil x hx hi ((cl_canon_eq (S:=S) (t:=0) ⟨(hok.2 x hx).1,(hX x hx).1⟩ ⟨⟨by omega,by omega⟩,h0⟩).1 ?_);rw[e];have:=cl_canon (M:=M) (S:=S) (j:=0) (by omega);rw[h0,if_pos rfl] at this;have hl:=(least_spec (M:=M) h0).1;have h3:leastM M S 0=0:=by omega
   rw[h3] at this;exact this.symm
  ·rw[List.filter_congr hfill];have h3:=h.apart;unfold List.Nodup at h3 ⊢;rw[List.pairwise_map] at h3 ⊢;refine List.Pairwise.imp_of_mem ?_ h3;intro x y hx hy hxy e;have hx':=(List.mem_filter.1 hx).1;have hy':=(List.mem_filter.1 hy).1;exact hxy ((cl_canon_eq ⟨(hok.2 x hx').1,(hX x hx').1⟩ ⟨(hok.2 y hy').1,(hX y hy').1⟩).1 e)
/-! tidying -/
theorem swp_val {M:Int→Int} {x t:Int} (h:M x=M t) (s:Int):M (swp x t s)=M s:=by
 unfold swp;split
 ·rename_i e;rw[e,h]
 ·rfl
theorem Sat.subst {M:Int→Int} {a:Asn} (h:Sat M a) {x t:Int} (e:M x=M t):Sat M (substA x t a):=by
 have hfill:∀ z:Atm,fillM M (z.sub x t)=fillM M z:=fun z=>by
  unfold fillM Atm.sub;simp only[swp_val e]
 refine ⟨fun f hf=>?_,fun y hy hfi=>?_,?_⟩
 ·obtain ⟨g,hg,rfl⟩:=List.mem_map.1 hf;simp only[Fct.sub,swp_val e];exact h.facts g hg
 ·obtain ⟨z,hz,rfl⟩:=List.mem_map.1 hy;rw[hfill] at hfi;simp only[Atm.sub,swp_val e];exact h.nil z hz hfi
 ·have h3:=h.apart;simp only[substA,List.filter_map,List.map_map];rw[List.filter_congr (q:=fillM M) fun z _=>by simp[hfill]]
  have e2:((fun y:Atm=>M y.a)∘Atm.sub x t)=fun y:Atm=>M y.a:=by
   funext z;simp only[Function.comp,Atm.sub,swp_val e]
  rw[e2];exact h3
theorem Sat.less {M:Int→Int} {a:Asn} (h:Sat M a) {fs:List Fct} {xs:List Atm} (hf:∀ f∈fs,f∈a.facts) (hx:xs.Sublist a.atoms):Sat M ⟨fs,xs⟩:=
 ⟨fun f hm=>h.facts f (hf f hm),fun x hm=>h.nil x (hx.subset hm),h.apart.sublist ((hx.filter _).map _)⟩
theorem nfold_mem (fs:List Fct):∀ (acc:List Fct) (g:Fct),g∈fs.foldl nfStep acc→g∈acc∨∃ f∈fs,g=nfF f:=by
 induction fs with
 | nil=>intro acc g h;exact Or.inl h
 | cons f fs ih=>
  intro acc g h;rw[List.foldl_cons] at h;rcases ih _ _ h with h|⟨f',hf',e⟩
  ·unfold nfStep at h
   split at h
   ·exact Or.inl h
   ·split at h
    ·exact Or.inl h
    ·rcases List.mem_append.1 h with h|h
     ·exact Or.inl h
     ·exact Or.inr ⟨f,List.mem_cons_self,List.mem_singleton.1 h⟩
  ·exact Or.inr ⟨f',List.mem_cons_of_mem _ hf',e⟩
theorem Sat.normal {M:Int→Int} {a:Asn} (h:Sat M a):Sat M (normalF a):=by
 have hs:=h.less (fs:=[]) (xs:=a.atoms.filter nfA) (fun _ hf=>by cases hf) List.filter_sublist;refine ⟨fun g hg=>?_,hs.nil,hs.apart⟩;rcases nfold_mem _ _ _ hg with h1|⟨f,hf,rfl⟩
 ·cases h1
 ·have:=h.facts f hf;unfold nfF
  split
  ·simp only[];rw[←this,decide_eq_decide];exact eq_comm
  ·exact this
end
end Go.Proofs.YtjaohekkmlkinaaGreat
