/- Exposing cells: the cell of a term moved to the front (impl.exposeCellAt). Printed by genExpB.py. -/
import Derived.Test.YtjaohekkmlkinaaGreatMaExpA
import Derived.Deep.DeepCutAuto
import Derived.Deep.RegionHeld
set_option linter.unusedSimpArgs false
set_option linter.unusedVariables false
set_option maxRecDepth 100000
set_option maxHeartbeats 25600000
namespace Go.Proofs.YtjaohekkmlkinaaGreat
section
open Go Go.RowKit Go.Proofs
attribute [local go_sem ↓] Go.wp_at_zero Go.wp_at_succ
theorem rowC_ {B:Nat} {w w':World} (h:Below B w w') {g:Nat} (hg:g<B) {cs:Array Value} (hc:∀ i,w.cell? ⟨g,i,none⟩=cs[i]?):∀ i,w'.cell? ⟨g,i,none⟩=cs[i]?:=fun i=>(h.cell (p:=⟨g,i,none⟩) hg).trans (hc i)
def cellX (a:Asn) (x:Atm) (i:Nat) (t:Int):Asn:=⟨a.facts++(if x.a=t then [] else [⟨true,x.a,t⟩]),⟨1,t,x.b⟩ :: zv a.atoms i⟩
theorem c_impl_exposeCellAt {lo hi0:Nat} (v:Value) (a:Asn) (i:Nat) (t:Int) (w:World) (h:AsnC w lo hi0 v a) (hi:i<a.atoms.length) (hfl:a.facts.length+1≤1049600) :
  Calls Tryz.prog 288 #[v,.int .i64 i,.int .i64 t] w fun e w'=>∃ r,e=.returned (.tuple #[r,.bool (cellX a a.atoms[i] i t).valid])∧AsnO w' w.heap.size r (cellX a a.atoms[i] i t)∧Below w.heap.size w w':=by
 have hV:=ax h;obtain ⟨A1,c1,A2,c2,rfl,h1,h2,-⟩:=h;have H1:=ax h1;have hl:=h2.le;have hwl:=withoutL_len hi;obtain ⟨b,o,rfl,g0,g1,g2⟩:=h2.at hi;obtain ⟨x,hx⟩:∃ x,x=a.atoms[i]:=⟨_,rfl⟩;rw[←hx] at g0 g1 g2 ⊢;have hbl:=block_lt_of_cell g0;simp only at hbl;have hii:(i:Int)<(a.atoms.length:Int):=by omega
 have HBL:aJ (([(⟨1,t,x.b⟩:Atm)]++zv a.atoms i).length=a.atoms.length):=ax (by simp;omega);clear hx h1 h2;(go_enter Tryz.func288,Tryz.ntmps288);have k0:Blk ((w.alloc (.cells #[.slice A1 a.facts.length c1,.slice (some ⟨b,o,none⟩) a.atoms.length c2] tAs)).alloc (.cells #[.slice none 0 0,.slice none 0 0] tAs)) w.heap.size tAs #[.slice A1 a.facts.length c1,.slice (some ⟨b,o,none⟩) a.atoms.length c2]:=blks;have k6:Blk ((w.alloc (.cells #[.slice A1 a.facts.length c1,.slice (some ⟨b,o,none⟩) a.atoms.length c2] tAs)).alloc (.cells #[.slice none 0 0,.slice none 0 0] tAs)) (w.heap.size+1) tAs #[.slice none 0 0,.slice none 0 0]:=blks;have hB0:aJ (Below w.heap.size w ((w.alloc (.cells #[.slice A1 a.facts.length c1,.slice (some ⟨b,o,none⟩) a.atoms.length c2] tAs)).alloc (.cells #[.slice none 0 0,.slice none 0 0] tAs))):=ax bel;have hs0:((w.alloc (.cells #[.slice A1 a.facts.length c1,.slice (some ⟨b,o,none⟩) a.atoms.length c2] tAs)).alloc (.cells #[.slice none 0 0,.slice none 0 0] tAs)).heap.size=w.heap.size+2:=by simp
 (go_upto_region 3 with fail);generalize ((w.alloc (.cells #[.slice A1 a.facts.length c1,.slice (some ⟨b,o,none⟩) a.atoms.length c2] tAs)).alloc (.cells #[.slice none 0 0,.slice none 0 0] tAs))=W0 at k0 k6 hB0 hs0 ⊢;have hk2:w.heap.size+2=W0.heap.size:=by omega
 have kx:Blk ((W0.alloc (.cells #[.int .i64 x.kind,.int .i64 x.a,.int .i64 x.b] tA)).alloc (.cells #[.int .i64 1,.int .i64 t,.int .i64 x.b] tA)) (w.heap.size+2) tA #[.int .i64 x.kind,.int .i64 x.a,.int .i64 x.b]:=(Blk.newE hk2).alloc _;have kf:Blk ((W0.alloc (.cells #[.int .i64 x.kind,.int .i64 x.a,.int .i64 x.b] tA)).alloc (.cells #[.int .i64 1,.int .i64 t,.int .i64 x.b] tA)) (w.heap.size+2+1) tA #[.int .i64 1,.int .i64 t,.int .i64 x.b]:=Blk.newE (by simp;omega);have hbq:Below W0.heap.size W0 ((W0.alloc (.cells #[.int .i64 x.kind,.int .i64 x.a,.int .i64 x.b] tA)).alloc (.cells #[.int .i64 1,.int .i64 t,.int .i64 x.b] tA)):=bbox (bbox (Below.refl _ _) _) _;replace k0:=k0.nz hbq;replace k6:=k6.nz hbq;have HB:=ax (bgo hB0.o hbq);have hsW:((W0.alloc (.cells #[.int .i64 x.kind,.int .i64 x.a,.int .i64 x.b] tA)).alloc (.cells #[.int .i64 1,.int .i64 t,.int .i64 x.b] tA)).heap.size=w.heap.size+4:=by simp;omega
 clear hbq hB0;generalize ((W0.alloc (.cells #[.int .i64 x.kind,.int .i64 x.a,.int .i64 x.b] tA)).alloc (.cells #[.int .i64 1,.int .i64 t,.int .i64 x.b] tA))=W at k0 k6 kx kf HB hsW ⊢;clear hk2 hs0 g0 g1 g2
 go_cut [10] (fun s10 wc=>∃ (xb:Nat) (F1:Option Addr) (e1:Nat) (G2:Option Addr) (e3:Nat),s10=.pointer (some ⟨xb,0,none⟩)∧aJ (FactsO wc w.heap.size (.slice F1 a.facts.length e1) a.facts)∧aJ (AtomsO wc w.heap.size (.slice G2 a.atoms.length e3) ([⟨1,t,x.b⟩]++zv a.atoms i))∧Blk wc xb tAs #[.slice F1 a.facts.length e1,.slice G2 a.atoms.length e3]∧Blk wc (w.heap.size+2) tA #[.int .i64 x.kind,.int .i64 x.a,.int .i64 x.b]∧Blk wc (w.heap.size+1) tAs #[.slice none 0 0,.slice none 0 0]∧w.heap.size+4≤xb∧aJ (Below w.heap.size w wc))
 case first=>
  have lk0:=k0.lt;have lkf:=kf.lt;(go_wp2_with fail);refine wp_region_noPanic ?_;refine wp_region_held_drew (S:=(fun w'=>(∀ i,w'.cell? ⟨w.heap.size,i,none⟩=#[.slice A1 a.facts.length c1,.slice (some ⟨b,o,none⟩) a.atoms.length c2][i]?)∧(∀ i,w'.cell? ⟨w.heap.size+2+1,i,none⟩=#[.int .i64 1,.int .i64 t,.int .i64 x.b][i]?))) (by kernel_rfl) (⟨k0.drew.cell,kf.drew.cell⟩) (fun aH=>?_);clear lk0 lkf;replace k0:=k0.drew;replace k6:=k6.drew;replace kx:=kx.drew;replace kf:=kf.drew;replace HB:=ax HB.o.drew;have hzq:W.heap.size≤W.drew.heap.size:=Nat.le_refl _;generalize W.drew=wq at k0 kx k6 kf HB hzq aH ⊢;refine tk2 0 rfl aH (h:=tk2 1 rfl aH (h:=tk2 3 rfl aH (h:=?_)));(try simp only[zz]);refine tk2 4 rfl aH (h:=tk2 5 rfl aH (h:=?_));(try simp only[zz]);refine rdd 2 9 rfl rfl (fun K hK=>?_) fun K hK=>?_
  ·skip;(try simp only[zz]);go_simp;refine (c_joinF A1 none c1 0 a.facts [] _ (H1.o.bz HB.o) (Rd.nil _ 0 0 _ _) (by simpa using Nat.le_of_succ_le hfl)).mono ?_;rintro e wq ⟨rF,rfl,oF,hBq⟩;rw[List.append_nil] at oF;obtain ⟨F1,e1,rfl,-⟩:=oF.rj;have OF:=ax (oF.bq (base':=w.heap.size) (by omega));clear oF;replace k0:=k0.nz hBq;replace kx:=kx.nz hBq;replace k6:=k6.nz hBq;replace kf:=kf.nz hBq;replace HB:=ax (bgo HB.o hBq);replace hzq:=Nat.le_trans hzq hBq.size;clear hBq;refine hK.out _ _ ⟨k0.cell,kf.cell⟩ ?_;clear aH hK K;intro aH;refine rdd 6 9 rfl rfl (fun K hK=>?_) fun K hK=>?_
   ·skip;(try simp only[zz]);go_simp;refine (c_impl_without _ a i _ (hV.o.bz HB.o) hi).mono ?_;rintro e wq ⟨rA,rfl,oA,hBq⟩;obtain ⟨G1,e2,rfl,fA⟩:=oA.rj;have FA:=ax fA;replace OF:=ax (OF.o.bz hBq);clear oA fA;replace k0:=k0.nz hBq;replace kx:=kx.nz hBq;replace k6:=k6.nz hBq;replace kf:=kf.nz hBq;replace HB:=ax (bgo HB.o hBq);replace hzq:=Nat.le_trans hzq hBq.size;clear hBq;refine hK.out _ _ ⟨k0.cell,kf.cell⟩ ?_;clear aH hK K;intro aH;refine rdd 7 9 rfl rfl (fun K hK=>?_) fun K hK=>?_
    ·skip;(try simp only[zz]);go_simp;refine (c_joinA (some ⟨w.heap.size+2+1,0,none⟩) G1 1 e2 [⟨1,t,x.b⟩] (zv a.atoms i) _ (AtomsV.one (f:=⟨1,t,x.b⟩) kf) FA.o (by simp<;>omega)).mono ?_;rintro e wq ⟨rB,rfl,oB,hBq⟩;obtain ⟨G2,e3,rfl,-⟩:=oB.rj;rw[HBL.o] at oB;have OB:=ax (oB.bq (base':=w.heap.size) (by omega));replace OF:=ax (OF.o.bz hBq);clear oB;replace k0:=k0.nz hBq;replace kx:=kx.nz hBq;replace k6:=k6.nz hBq;replace kf:=kf.nz hBq;replace HB:=ax (bgo HB.o hBq);replace hzq:=Nat.le_trans hzq hBq.size;clear hBq;refine hK.out _ _ ⟨k0.cell,kf.cell⟩ ?_;clear aH hK K;intro aH;refine tk2 8 rfl aH (h:=?_);refine rdc 9 rfl fun K hK=>?_;(try simp only[zz]);go_simp;refine hK.out _ _ (⟨rowC_ (bbox (Below.refl _ _) _) k0.lt k0.cell,rowC_ (bbox (Below.refl _ _) _) kf.lt kf.cell⟩) ?_;clear aH hK K;intro aH;(try simp only[zz]);have hBq:Below wq.heap.size wq (wq.alloc (.cells #[.slice none 0 0,.slice none 0 0] tAs)):=bbox (Below.refl _ _) _;have kBox:Blk (wq.alloc (.cells #[.slice none 0 0,.slice none 0 0] tAs)) wq.heap.size tAs #[.slice none 0 0,.slice none 0 0]:=Blk.new _ _ _;obtain ⟨xb,hxb⟩:∃ x,x=wq.heap.size:=⟨_,rfl⟩;have hxb2:W.heap.size≤xb:=by omega
     replace k0:=k0.nz hBq;replace kx:=kx.nz hBq;replace k6:=k6.nz hBq;replace kf:=kf.nz hBq;replace HB:=ax (bgo HB.o hBq);replace hzq:=Nat.le_trans hzq hBq.size;(try replace OF:=ax (OF.o.bz hBq));(try replace FA:=ax (FA.o.bz hBq));(try replace OB:=ax (OB.o.bz hBq));rw[←hxb] at kBox ⊢;clear hBq hxb;generalize wq.alloc (.cells #[.slice none 0 0,.slice none 0 0] tAs)=wq at *;have hlB:=kBox.lt;have qb:=kBox.cell;have rb:=kBox.frozen;refine rdc 10 rfl fun K hK=>?_;(try simp only[zz]);go_simp;refine hK.out _ _ (⟨((k0.far (p:=⟨xb,0,none⟩) (by simp only;omega) _).far (p:=⟨xb,1,none⟩) (by simp only;omega) _).cell,((kf.far (p:=⟨xb,0,none⟩) (kf.ne_ kBox (by decide)) _).far (p:=⟨xb,1,none⟩) (kf.ne_ kBox (by decide)) _).cell⟩) ?_;clear aH hK K;intro aH;(try simp only[zz]);refine dn1 ?_;(go_wp2_with fail);go_meet
     case rel=>
      refine ⟨xb,F1,e1,G2,e3,rfl,ax ((OF.o.setT kBox (by decide) 0 _).setT (kBox.set_ 0 _) (by decide) 1 _),ax ((OB.o.setT kBox (by decide) 0 _).setT (kBox.set_ 0 _) (by decide) 1 _),?_,(kx.far (p:=⟨xb,0,none⟩) (kx.ne_ kBox (by decide)) _).far (p:=⟨xb,1,none⟩) (kx.ne_ kBox (by decide)) _,(k6.far (p:=⟨xb,0,none⟩) (by simp only;omega) _).far (p:=⟨xb,1,none⟩) (by simp only;omega) _,by omega,ax ((HB.o.setCell (p:=⟨xb,0,none⟩) (by simp only;omega) _).setCell (p:=⟨xb,1,none⟩) (by simp only;omega) _)⟩;have:=(kBox.set_ 0 (.slice F1 a.facts.length e1)).set_ 1 (.slice G2 a.atoms.length e3);simpa using this
    ·skip;(try simp only[zz]);go_simp;refine hK.out _ _ ⟨rowC_ (bbox (Below.refl _ _) _) k0.lt k0.cell,rowC_ (bbox (Below.refl _ _) _) kf.lt kf.cell⟩ ?_;clear aH hK K;intro aH;have hBq:Below wq.heap.size wq (wq.alloc (.cells #[.slice none 0 0,.slice none 0 0] tAs)):=bbox (Below.refl _ _) _;have kBox:Blk (wq.alloc (.cells #[.slice none 0 0,.slice none 0 0] tAs)) wq.heap.size tAs #[.slice none 0 0,.slice none 0 0]:=Blk.new _ _ _;obtain ⟨xb,hxb⟩:∃ x,x=wq.heap.size:=⟨_,rfl⟩;have hxb2:W.heap.size≤xb:=by omega
     replace k0:=k0.nz hBq;replace kx:=kx.nz hBq;replace k6:=k6.nz hBq;replace kf:=kf.nz hBq;replace HB:=ax (bgo HB.o hBq);replace hzq:=Nat.le_trans hzq hBq.size;(try replace OF:=ax (OF.o.bz hBq));(try replace FA:=ax (FA.o.bz hBq));(try replace OB:=ax (OB.o.bz hBq));rw[←hxb] at kBox ⊢;clear hBq hxb;generalize wq.alloc (.cells #[.slice none 0 0,.slice none 0 0] tAs)=wq at *;refine rdc 7 rfl fun K hK=>?_;(try simp only[zz]);(go_simp;refine (c_joinA (some ⟨w.heap.size+2+1,0,none⟩) G1 1 e2 [⟨1,t,x.b⟩] (zv a.atoms i) _ (AtomsV.one (f:=⟨1,t,x.b⟩) kf) FA.o (by simp<;>omega)).mono ?_;rintro e wq ⟨rB,rfl,oB,hBq⟩;obtain ⟨G2,e3,rfl,-⟩:=oB.rj;rw[HBL.o] at oB;have OB:=ax (oB.bq (base':=w.heap.size) (by omega));replace OF:=ax (OF.o.bz hBq);clear oB;replace k0:=k0.nz hBq;replace kx:=kx.nz hBq;replace k6:=k6.nz hBq;replace kf:=kf.nz hBq;replace HB:=ax (bgo HB.o hBq);replace hzq:=Nat.le_trans hzq hBq.size;have kBox:=kBox.nz hBq);refine hK.out _ _ (⟨k0.cell,kf.cell⟩) ?_;clear aH hK K;intro aH;(try simp only[zz]);clear hBq;refine tk2 8 rfl aH (h:=?_);(try simp only[zz]);have hlB:=kBox.lt;have qb:=kBox.cell;have rb:=kBox.frozen;refine rdc 10 rfl fun K hK=>?_;(try simp only[zz]);go_simp;refine hK.out _ _ (⟨((k0.far (p:=⟨xb,0,none⟩) (by simp only;omega) _).far (p:=⟨xb,1,none⟩) (by simp only;omega) _).cell,((kf.far (p:=⟨xb,0,none⟩) (kf.ne_ kBox (by decide)) _).far (p:=⟨xb,1,none⟩) (kf.ne_ kBox (by decide)) _).cell⟩) ?_;clear aH hK K;intro aH;(try simp only[zz]);refine dn1 ?_;(go_wp2_with fail);go_meet
     case rel=>
      refine ⟨xb,F1,e1,G2,e3,rfl,ax ((OF.o.setT kBox (by decide) 0 _).setT (kBox.set_ 0 _) (by decide) 1 _),ax ((OB.o.setT kBox (by decide) 0 _).setT (kBox.set_ 0 _) (by decide) 1 _),?_,(kx.far (p:=⟨xb,0,none⟩) (kx.ne_ kBox (by decide)) _).far (p:=⟨xb,1,none⟩) (kx.ne_ kBox (by decide)) _,(k6.far (p:=⟨xb,0,none⟩) (by simp only;omega) _).far (p:=⟨xb,1,none⟩) (by simp only;omega) _,by omega,ax ((HB.o.setCell (p:=⟨xb,0,none⟩) (by simp only;omega) _).setCell (p:=⟨xb,1,none⟩) (by simp only;omega) _)⟩;have:=(kBox.set_ 0 (.slice F1 a.facts.length e1)).set_ 1 (.slice G2 a.atoms.length e3);simpa using this
   ·skip;(try simp only[zz]);go_simp;refine hK.out _ _ ⟨rowC_ (bbox (Below.refl _ _) _) k0.lt k0.cell,rowC_ (bbox (Below.refl _ _) _) kf.lt kf.cell⟩ ?_;clear aH hK K;intro aH;have hBq:Below wq.heap.size wq (wq.alloc (.cells #[.slice none 0 0,.slice none 0 0] tAs)):=bbox (Below.refl _ _) _;have kBox:Blk (wq.alloc (.cells #[.slice none 0 0,.slice none 0 0] tAs)) wq.heap.size tAs #[.slice none 0 0,.slice none 0 0]:=Blk.new _ _ _;obtain ⟨xb,hxb⟩:∃ x,x=wq.heap.size:=⟨_,rfl⟩;have hxb2:W.heap.size≤xb:=by omega
    replace k0:=k0.nz hBq;replace kx:=kx.nz hBq;replace k6:=k6.nz hBq;replace kf:=kf.nz hBq;replace HB:=ax (bgo HB.o hBq);replace hzq:=Nat.le_trans hzq hBq.size;(try replace OF:=ax (OF.o.bz hBq));(try replace FA:=ax (FA.o.bz hBq));(try replace OB:=ax (OB.o.bz hBq));rw[←hxb] at kBox ⊢;clear hBq hxb;generalize wq.alloc (.cells #[.slice none 0 0,.slice none 0 0] tAs)=wq at *;refine rdc 6 rfl fun K hK=>?_;(try simp only[zz]);(go_simp;refine (c_impl_without _ a i _ (hV.o.bz HB.o) hi).mono ?_;rintro e wq ⟨rA,rfl,oA,hBq⟩;obtain ⟨G1,e2,rfl,fA⟩:=oA.rj;have FA:=ax fA;replace OF:=ax (OF.o.bz hBq);clear oA fA;replace k0:=k0.nz hBq;replace kx:=kx.nz hBq;replace k6:=k6.nz hBq;replace kf:=kf.nz hBq;replace HB:=ax (bgo HB.o hBq);replace hzq:=Nat.le_trans hzq hBq.size;have kBox:=kBox.nz hBq);refine hK.out _ _ (⟨k0.cell,kf.cell⟩) ?_;clear aH hK K;intro aH;(try simp only[zz]);clear hBq;refine rdc 7 rfl fun K hK=>?_;(try simp only[zz]);(go_simp;refine (c_joinA (some ⟨w.heap.size+2+1,0,none⟩) G1 1 e2 [⟨1,t,x.b⟩] (zv a.atoms i) _ (AtomsV.one (f:=⟨1,t,x.b⟩) kf) FA.o (by simp<;>omega)).mono ?_;rintro e wq ⟨rB,rfl,oB,hBq⟩;obtain ⟨G2,e3,rfl,-⟩:=oB.rj;rw[HBL.o] at oB;have OB:=ax (oB.bq (base':=w.heap.size) (by omega));replace OF:=ax (OF.o.bz hBq);clear oB;replace k0:=k0.nz hBq;replace kx:=kx.nz hBq;replace k6:=k6.nz hBq;replace kf:=kf.nz hBq;replace HB:=ax (bgo HB.o hBq);replace hzq:=Nat.le_trans hzq hBq.size;have kBox:=kBox.nz hBq);refine hK.out _ _ (⟨k0.cell,kf.cell⟩) ?_;clear aH hK K;intro aH;(try simp only[zz]);clear hBq;refine tk2 8 rfl aH (h:=?_);(try simp only[zz]);have hlB:=kBox.lt;have qb:=kBox.cell;have rb:=kBox.frozen;refine rdc 10 rfl fun K hK=>?_;(try simp only[zz]);go_simp;refine hK.out _ _ (⟨((k0.far (p:=⟨xb,0,none⟩) (by simp only;omega) _).far (p:=⟨xb,1,none⟩) (by simp only;omega) _).cell,((kf.far (p:=⟨xb,0,none⟩) (kf.ne_ kBox (by decide)) _).far (p:=⟨xb,1,none⟩) (kf.ne_ kBox (by decide)) _).cell⟩) ?_;clear aH hK K;intro aH;(try simp only[zz]);refine dn1 ?_;(go_wp2_with fail);go_meet
    case rel=>
     refine ⟨xb,F1,e1,G2,e3,rfl,ax ((OF.o.setT kBox (by decide) 0 _).setT (kBox.set_ 0 _) (by decide) 1 _),ax ((OB.o.setT kBox (by decide) 0 _).setT (kBox.set_ 0 _) (by decide) 1 _),?_,(kx.far (p:=⟨xb,0,none⟩) (kx.ne_ kBox (by decide)) _).far (p:=⟨xb,1,none⟩) (kx.ne_ kBox (by decide)) _,(k6.far (p:=⟨xb,0,none⟩) (by simp only;omega) _).far (p:=⟨xb,1,none⟩) (by simp only;omega) _,by omega,ax ((HB.o.setCell (p:=⟨xb,0,none⟩) (by simp only;omega) _).setCell (p:=⟨xb,1,none⟩) (by simp only;omega) _)⟩;have:=(kBox.set_ 0 (.slice F1 a.facts.length e1)).set_ 1 (.slice G2 a.atoms.length e3);simpa using this
  ·skip;(try simp only[zz]);go_simp;refine hK.out _ _ ⟨rowC_ (bbox (Below.refl _ _) _) k0.lt k0.cell,rowC_ (bbox (Below.refl _ _) _) kf.lt kf.cell⟩ ?_;clear aH hK K;intro aH;have hBq:Below wq.heap.size wq (wq.alloc (.cells #[.slice none 0 0,.slice none 0 0] tAs)):=bbox (Below.refl _ _) _;have kBox:Blk (wq.alloc (.cells #[.slice none 0 0,.slice none 0 0] tAs)) wq.heap.size tAs #[.slice none 0 0,.slice none 0 0]:=Blk.new _ _ _;obtain ⟨xb,hxb⟩:∃ x,x=wq.heap.size:=⟨_,rfl⟩;have hxb2:W.heap.size≤xb:=by omega
   replace k0:=k0.nz hBq;replace kx:=kx.nz hBq;replace k6:=k6.nz hBq;replace kf:=kf.nz hBq;replace HB:=ax (bgo HB.o hBq);replace hzq:=Nat.le_trans hzq hBq.size;(try replace OF:=ax (OF.o.bz hBq));(try replace FA:=ax (FA.o.bz hBq));(try replace OB:=ax (OB.o.bz hBq));rw[←hxb] at kBox ⊢;clear hBq hxb;generalize wq.alloc (.cells #[.slice none 0 0,.slice none 0 0] tAs)=wq at *;refine rdc 2 rfl fun K hK=>?_;(try simp only[zz]);(go_simp;refine (c_joinF A1 none c1 0 a.facts [] _ (H1.o.bz HB.o) (Rd.nil _ 0 0 _ _) (by simpa using Nat.le_of_succ_le hfl)).mono ?_;rintro e wq ⟨rF,rfl,oF,hBq⟩;rw[List.append_nil] at oF;obtain ⟨F1,e1,rfl,-⟩:=oF.rj;have OF:=ax (oF.bq (base':=w.heap.size) (by omega));clear oF;replace k0:=k0.nz hBq;replace kx:=kx.nz hBq;replace k6:=k6.nz hBq;replace kf:=kf.nz hBq;replace HB:=ax (bgo HB.o hBq);replace hzq:=Nat.le_trans hzq hBq.size;have kBox:=kBox.nz hBq);refine hK.out _ _ (⟨k0.cell,kf.cell⟩) ?_;clear aH hK K;intro aH;(try simp only[zz]);clear hBq;refine rdc 6 rfl fun K hK=>?_;(try simp only[zz]);(go_simp;refine (c_impl_without _ a i _ (hV.o.bz HB.o) hi).mono ?_;rintro e wq ⟨rA,rfl,oA,hBq⟩;obtain ⟨G1,e2,rfl,fA⟩:=oA.rj;have FA:=ax fA;replace OF:=ax (OF.o.bz hBq);clear oA fA;replace k0:=k0.nz hBq;replace kx:=kx.nz hBq;replace k6:=k6.nz hBq;replace kf:=kf.nz hBq;replace HB:=ax (bgo HB.o hBq);replace hzq:=Nat.le_trans hzq hBq.size;have kBox:=kBox.nz hBq);refine hK.out _ _ (⟨k0.cell,kf.cell⟩) ?_;clear aH hK K;intro aH;(try simp only[zz]);clear hBq;refine rdc 7 rfl fun K hK=>?_;(try simp only[zz]);(go_simp;refine (c_joinA (some ⟨w.heap.size+2+1,0,none⟩) G1 1 e2 [⟨1,t,x.b⟩] (zv a.atoms i) _ (AtomsV.one (f:=⟨1,t,x.b⟩) kf) FA.o (by simp<;>omega)).mono ?_;rintro e wq ⟨rB,rfl,oB,hBq⟩;obtain ⟨G2,e3,rfl,-⟩:=oB.rj;rw[HBL.o] at oB;have OB:=ax (oB.bq (base':=w.heap.size) (by omega));replace OF:=ax (OF.o.bz hBq);clear oB;replace k0:=k0.nz hBq;replace kx:=kx.nz hBq;replace k6:=k6.nz hBq;replace kf:=kf.nz hBq;replace HB:=ax (bgo HB.o hBq);replace hzq:=Nat.le_trans hzq hBq.size;have kBox:=kBox.nz hBq);refine hK.out _ _ (⟨k0.cell,kf.cell⟩) ?_;clear aH hK K;intro aH;(try simp only[zz]);clear hBq;refine tk2 8 rfl aH (h:=?_);(try simp only[zz]);have hlB:=kBox.lt;have qb:=kBox.cell;have rb:=kBox.frozen;refine rdc 10 rfl fun K hK=>?_;(try simp only[zz]);go_simp;refine hK.out _ _ (⟨((k0.far (p:=⟨xb,0,none⟩) (by simp only;omega) _).far (p:=⟨xb,1,none⟩) (by simp only;omega) _).cell,((kf.far (p:=⟨xb,0,none⟩) (kf.ne_ kBox (by decide)) _).far (p:=⟨xb,1,none⟩) (kf.ne_ kBox (by decide)) _).cell⟩) ?_;clear aH hK K;intro aH;(try simp only[zz]);refine dn1 ?_;(go_wp2_with fail);go_meet
   case rel=>
    refine ⟨xb,F1,e1,G2,e3,rfl,ax ((OF.o.setT kBox (by decide) 0 _).setT (kBox.set_ 0 _) (by decide) 1 _),ax ((OB.o.setT kBox (by decide) 0 _).setT (kBox.set_ 0 _) (by decide) 1 _),?_,(kx.far (p:=⟨xb,0,none⟩) (kx.ne_ kBox (by decide)) _).far (p:=⟨xb,1,none⟩) (kx.ne_ kBox (by decide)) _,(k6.far (p:=⟨xb,0,none⟩) (by simp only;omega) _).far (p:=⟨xb,1,none⟩) (by simp only;omega) _,by omega,ax ((HB.o.setCell (p:=⟨xb,0,none⟩) (by simp only;omega) _).setCell (p:=⟨xb,1,none⟩) (by simp only;omega) _)⟩;have:=(kBox.set_ 0 (.slice F1 a.facts.length e1)).set_ 1 (.slice G2 a.atoms.length e3);simpa using this
 case rest=>
  obtain ⟨xb,F1,e1,G2,e3,rfl,OF,OB,kb,kx,k6,hxb,HB⟩:=hcut;have hl0:=kb.lt;by_cases hxt:x.a=t
  ·have HXE:aJ (cellX a x i t=⟨a.facts,[⟨1,t,x.b⟩]++zv a.atoms i⟩):=ax (by unfold cellX;rw[if_pos hxt,List.append_nil];rfl)
   have HVX:aJ (AsnV wc 0 wc.heap.size (.agg #[.slice F1 a.facts.length e1,.slice G2 a.atoms.length e3]) (cellX a x i t)):=ax (by
    rw[HXE.o];refine ⟨F1,e1,G2,e3,?_,OF.o.readsI.2.mono (Nat.zero_le _) (Nat.le_refl _),OB.o.readsI.2.mono (Nat.zero_le _) (Nat.le_refl _)⟩
    rw[HBL.o])
   have hb:(x.a != t)=false:=by simpa using hxt
   clear hxt;(replace qkb:=kb.z;replace qkx:=kx.z;replace qk6:=k6.z);(go_upto_region 6 with fail);clear qkx;refine wp_region_noPanic ?_;refine wp_region_held_drew (S:=(fun w'=>∀ i,w'.cell? ⟨xb,i,none⟩=#[.slice F1 a.facts.length e1,.slice G2 a.atoms.length e3][i]?)) (by kernel_rfl) (kb.drew.cell) (fun aH=>?_);refine tk2 0 rfl aH (h:=tk2 1 rfl aH (h:=?_));refine rdc 2 rfl fun K hK=>?_;(try simp only[zz]);(go_simp;refine (jz _ (cellX a x i t) _ (HVX.o.bz (Below.refl _ _).drew)).mono ?_;rintro e w8 ⟨rfl,hB8⟩;replace hB8:Below wc.heap.size wc w8:=(Below.refl _ _).drew.trans hB8;have kb8:=kb.nz hB8;have k68:=k6.nz hB8;have OF8:=ax (OF.o.bz hB8);have OB8:=ax (OB.o.bz hB8);have HB8:=ax (bgo HB.o hB8);clear hB8);refine hK.out _ _ (kb8.cell) ?_;clear aH hK K;intro aH;(try simp only[zz]);have q68:=k68.cell;have r68:=k68.frozen;have l68:=k68.lt;refine rdc 3 rfl fun K hK=>?_;(try simp only[zz]);go_simp;refine hK.out _ _ (((kb8.far (p:=⟨w.heap.size+1,0,none⟩) (by simp only;omega) _).far (p:=⟨w.heap.size+1,1,none⟩) (by simp only;omega) _).cell) ?_;clear aH hK K;intro aH;refine rdc 4 rfl fun K hK=>?_;(try simp only[zz]);go_simp;refine hK.out _ _ (((kb8.far (p:=⟨w.heap.size+1,0,none⟩) (by simp only;omega) _).far (p:=⟨w.heap.size+1,1,none⟩) (by simp only;omega) _).cell) ?_;clear aH hK K;intro aH;(try simp only[zz]);refine dn1 ?_;(go_wp2_with fail);have z6:=((k68.set_ 0 (.slice F1 a.facts.length e1)).set_ 1 (.slice G2 a.atoms.length e3)).cell;refine bodyPost_ret (v:=.tuple #[.agg #[.slice F1 a.facts.length e1,.slice G2 a.atoms.length e3],.bool (cellX a x i t).valid]) (by simp[results,Tryz.results288,go_sem,z6]) rfl ⟨_,rfl,⟨_,_,rfl,?_,?_⟩,?_⟩
   ·rw[HXE.o];exact (OF8.o.setT k68 (by decide) 0 _).setT (k68.set_ 0 _) (by decide) 1 _
   ·rw[HXE.o];exact (OB8.o.setT k68 (by decide) 0 _).setT (k68.set_ 0 _) (by decide) 1 _
   ·exact (HB8.o.setCell (p:=⟨w.heap.size+1,0,none⟩) (by simp only;omega) _).setCell (p:=⟨w.heap.size+1,1,none⟩) (by simp only;omega) _
  ·have HXE:aJ (cellX a x i t=⟨a.facts++[⟨true,x.a,t⟩],[⟨1,t,x.b⟩]++zv a.atoms i⟩):=ax (by unfold cellX;rw[if_neg hxt];rfl);have hb:(x.a != t)=true:=by simpa using hxt
   clear hxt;have hzw:w.heap.size≤wc.heap.size:=HB.o.size;(replace qkb:=kb.z;replace qkx:=kx.z;replace qk6:=k6.z);(go_wp2_with (at_builtin;refine appFL (ys:=[⟨true,x.a,t⟩]) (base:=w.heap.size) rfl _ _ rfl rfl (OF.o.bz bel) rfl (FactsV.one (f:=⟨true,x.a,t⟩) (Blk.new wc tF _)) (by simpa using hfl) (by simp;omega) ?_;intro A6 c6 w6 o6 hg6 hB6;have kO:=OF.o.bz (w':=wc.alloc (.cells #[.bool true,.int .i64 x.a,.int .i64 t] tF)) bel;have kb6:=Blk.zm (hg:=hg6) (kb.alloc _) kO.1 (by decide);have k66:=Blk.zm (hg:=hg6) (k6.alloc _) kO.1 (by decide);have OB6:aJ (AtomsO w6 w.heap.size (.slice G2 a.atoms.length e3) ([⟨1,t,x.b⟩]++zv a.atoms i)):=ax ⟨own_grownO (OB.o.bz (w':=wc.alloc (.cells #[.bool true,.int .i64 x.a,.int .i64 t] tF)) bel).1 kO.1 hg6 (by decide),OB.o.2⟩;have HB6:aJ (Below w.heap.size w w6):=ax ((HB.o.alloc hzw _).trans hB6);have OF6:=ax o6;clear hB6 hg6 o6 kO;have qb6:=kb6.cell;have rb6:=kb6.frozen;have lb6:=kb6.lt))
   have kb7:Blk (w6.setCell ⟨xb,0,none⟩ (.slice A6 (a.facts.length+1) c6)) xb tAs #[.slice A6 (a.facts.length+1) c6,.slice G2 a.atoms.length e3]:=by
    have:=kb6.set_ 0 (.slice A6 (a.facts.length+1) c6);simpa using this
   have k67:=k66.far (p:=⟨xb,0,none⟩) (by simp only;omega) (.slice A6 (a.facts.length+1) c6)
   have OF7:aJ (FactsO (w6.setCell ⟨xb,0,none⟩ (.slice A6 (a.facts.length+1) c6)) w.heap.size (.slice A6 (a.facts.length+1) c6) (a.facts++[⟨true,x.a,t⟩])):=ax (by
    have:=OF6.o.setT kb6 (by decide) 0 (.slice A6 (a.facts.length+1) c6)
    simpa using this)
   have OB7:=ax (OB6.o.setT kb6 (by decide) 0 (.slice A6 (a.facts.length+1) c6));have HB7:=ax (HB6.o.setCell (p:=⟨xb,0,none⟩) (by simp only;omega) (.slice A6 (a.facts.length+1) c6));clear qkb qkx qk6 qb6 rb6 lb6 kb kx k6 OF OB HB kb6 k66 OF6 OB6 HB6;generalize (w6.setCell ⟨xb,0,none⟩ (.slice A6 (a.facts.length+1) c6))=W7 at kb7 k67 OF7 OB7 HB7 ⊢;have kb:=kb7;have k6:=k67;have OF:=OF7;have OB:=OB7;have HB:=HB7;clear kb7 k67 OF7 OB7 HB7
   have HVX:aJ (AsnV W7 0 W7.heap.size (.agg #[.slice A6 (a.facts.length+1) c6,.slice G2 a.atoms.length e3]) (cellX a x i t)):=ax (by
    rw[HXE.o];refine ⟨A6,c6,G2,e3,?_,by simpa using OF.o.readsI.2.mono (Nat.zero_le _) (Nat.le_refl _),OB.o.readsI.2.mono (Nat.zero_le _) (Nat.le_refl _)⟩
    rw[HBL.o];simp)
   refine wp_region_noPanic ?_;refine wp_region_held_drew (S:=(fun w'=>∀ i,w'.cell? ⟨xb,i,none⟩=#[.slice A6 (a.facts.length+1) c6,.slice G2 a.atoms.length e3][i]?)) (by kernel_rfl) (kb.drew.cell) (fun aH=>?_);refine tk2 0 rfl aH (h:=tk2 1 rfl aH (h:=?_));refine rdc 2 rfl fun K hK=>?_;(try simp only[zz]);(go_simp;refine (jz _ (cellX a x i t) _ (HVX.o.bz (Below.refl _ _).drew)).mono ?_;rintro e w8 ⟨rfl,hB8⟩;replace hB8:Below W7.heap.size W7 w8:=(Below.refl _ _).drew.trans hB8;have kb8:=kb.nz hB8;have k68:=k6.nz hB8;have OF8:=ax (OF.o.bz hB8);have OB8:=ax (OB.o.bz hB8);have HB8:=ax (bgo HB.o hB8);clear hB8);refine hK.out _ _ (kb8.cell) ?_;clear aH hK K;intro aH;(try simp only[zz]);have q68:=k68.cell;have r68:=k68.frozen;have l68:=k68.lt;refine rdc 3 rfl fun K hK=>?_;(try simp only[zz]);go_simp;refine hK.out _ _ (((kb8.far (p:=⟨w.heap.size+1,0,none⟩) (by simp only;omega) _).far (p:=⟨w.heap.size+1,1,none⟩) (by simp only;omega) _).cell) ?_;clear aH hK K;intro aH;refine rdc 4 rfl fun K hK=>?_;(try simp only[zz]);go_simp;refine hK.out _ _ (((kb8.far (p:=⟨w.heap.size+1,0,none⟩) (by simp only;omega) _).far (p:=⟨w.heap.size+1,1,none⟩) (by simp only;omega) _).cell) ?_;clear aH hK K;intro aH;(try simp only[zz]);refine dn1 ?_;(go_wp2_with fail);have z6:=((k68.set_ 0 (.slice A6 (a.facts.length+1) c6)).set_ 1 (.slice G2 a.atoms.length e3)).cell;refine bodyPost_ret (v:=.tuple #[.agg #[.slice A6 (a.facts.length+1) c6,.slice G2 a.atoms.length e3],.bool (cellX a x i t).valid]) (by simp[results,Tryz.results288,go_sem,z6]) rfl ⟨_,rfl,⟨_,_,rfl,?_,?_⟩,?_⟩
   ·rw[HXE.o];exact (OF8.o.setT k68 (by decide) 0 _).setT (k68.set_ 0 _) (by decide) 1 _
   ·rw[HXE.o];exact (OB8.o.setT k68 (by decide) 0 _).setT (k68.set_ 0 _) (by decide) 1 _
   ·exact (HB8.o.setCell (p:=⟨w.heap.size+1,0,none⟩) (by simp only;omega) _).setCell (p:=⟨w.heap.size+1,1,none⟩) (by simp only;omega) _
end
section
open Go
def fillM (M:Int→Int) (x:Atm):Bool:=decide (x.kind=1) || !decide (M x.a=M x.b)
structure Sat (M:Int→Int) (a:Asn):Prop where
 facts:∀ f∈a.facts,decide (M f.a=M f.b)=f.eq
 nil:∀ x∈a.atoms,fillM M x=true→M x.a≠M 0
 apart:((a.atoms.filter (fillM M)).map fun x=>M x.a).Nodup
theorem case_zero {a:Asn} {S:Nat} (hS:S.testBit 0=true) {d:List Int} (h:d∈cases a S):cl d 0=0:=by
 unfold cases at h;have hd:=(List.mem_filter.1 h).1;have:=((gen_ok S 9 zeros d (by omega) rfl hd).2.2 0 (by omega) (by omega)).1 hS;have h2:cl d ((0:Nat):Int)=cl d 0:=rfl;omega
theorem inLast_fillM {x:Atm} {c:List Int} (h:(0≤x.a∧x.a≤8)∧(0≤x.b∧x.b≤8)):inLast c 8 x=fillM (cl c) x:=by
 unfold inLast fillM Atm.fill;rw[decide_eq_true h.1.2,decide_eq_true h.2.2];rfl
theorem case_sat {a:Asn} (hv:a.valid=true) {S:Nat} (hS:S.testBit 0=true) {d:List Int} (h:d∈cases a S):Sat (cl d) a:=by
 have h0:=case_zero hS h;have hok:=Asn.valid_ok hv;unfold cases at h;have hf:=(List.mem_filter.1 h).2;have hp:=hf;rw[full_poss hok.1 hok.2] at hp;unfold poss at hp;unfold full at hf;rw[Bool.and_eq_true] at hf hp;have hA:=(possA_iff _ _ _ _).1 hp.2;refine ⟨fun f hm=>?_,fun x hm hfi=>?_,?_⟩
 ·have:=List.all_eq_true.1 hf.1 f hm;unfold Fct.fits at this;exact eq_of_beq this
 ·rw[h0];exact (hA.1 x hm (by rw[inLast_fillM (hok.2 x hm)];exact hfi)).1
 ·rw[←List.filter_congr fun x hm=>inLast_fillM (hok.2 x hm)];exact hA.2
def leastM (M:Int→Int) (S j:Nat):Nat:=((List.range (j+1)).find? fun k=>S.testBit k&&decide (M (k:Int)=M (j:Int))).getD j
def canon (M:Int→Int) (S:Nat):List Int:=(List.range 9).map fun j=>if S.testBit j then ((leastM M S j:Nat):Int) else -1
theorem least_spec {M:Int→Int} {S j:Nat} (hj:S.testBit j=true):leastM M S j≤j∧S.testBit (leastM M S j)=true∧M (leastM M S j:Nat)=M j∧∀ k,k<leastM M S j→S.testBit k=true→M (k:Nat)≠M j:=by
 unfold leastM
 cases h:(List.range (j+1)).find? fun k=>S.testBit k&&decide (M (k:Int)=M (j:Int)) with
 | none=>
  have:=List.find?_eq_none.1 h j (by simp);simp[hj] at this
 | some k=>
  obtain ⟨h1,h2,h3⟩:=List.find?_range_eq_some.1 h;simp only[Bool.and_eq_true,decide_eq_true_eq] at h1;refine ⟨by have:=List.mem_range.1 h2;simp only[Option.getD_some];omega,h1.1,h1.2,fun i hi hb e=>?_⟩;have:=h3 i hi;simp[hb,e] at this
theorem least_eq {M:Int→Int} {S i j:Nat} (hi:S.testBit i=true) (hj:S.testBit j=true):leastM M S i=leastM M S j↔M (i:Nat)=M (j:Nat):=by
 have h1:=least_spec (M:=M) hi;have h2:=least_spec (M:=M) hj;constructor
 ·intro e;rw[←h1.2.2.1,e,h2.2.2.1]
 ·intro e;rcases Nat.lt_trichotomy (leastM M S i) (leastM M S j) with h|h|h
  ·exact absurd (h1.2.2.1.trans e) (h2.2.2.2 _ h h1.2.1)
  ·exact h
  ·exact absurd (h2.2.2.1.trans e.symm) (h1.2.2.2 _ h h2.2.1)
theorem canon_length (M:Int→Int) (S:Nat):(canon M S).length=9:=by simp[canon]
theorem cl_canon {M:Int→Int} {S j:Nat} (hj:j<9):cl (canon M S) (j:Int)=if S.testBit j then ((leastM M S j:Nat):Int) else -1:=by
 unfold cl canon;rw[Int.toNat_natCast,List.getElem?_map,List.getElem?_range hj];rfl
theorem canon_gen (M:Int→Int) (S:Nat):∀ (n:Nat) (c:List Int),n≤9→c.length=9→(∀ j:Nat,j<9 - n→cl c j=cl (canon M S) j)→canon M S∈gen S n c:=by
 intro n
 induction n with
 | zero=>
  intro c _ hc h;unfold gen;rw[List.mem_singleton];apply List.ext_getElem (by rw[hc];exact canon_length M S);intro j h1 h2;have:=h j (by omega);simpa[cl,List.getElem?_eq_getElem h1,List.getElem?_eq_getElem h2] using this.symm
 | succ n ih=>
  intro c hn hc h;unfold gen;cases e:S.testBit (8 - n)
  ·simp only[Bool.false_eq_true,if_false];refine ih _ (by omega) (by simpa using hc) fun j hj=>?_;rw[cl_set hc (by omega) _ (by omega)]
   split
   ·rename_i hj';have:j=8 - n:=by omega
    subst this;rw[cl_canon (by omega),e];rfl
   ·exact h j (by omega)
  ·rw[if_pos rfl,List.mem_flatMap];have hl:=least_spec (M:=M) e;refine ⟨leastM M S (8 - n),by rw[List.mem_range];omega,?_⟩;rw[if_neg]
   ·refine ih _ (by omega) (by simpa using hc) fun j hj=>?_;rw[cl_set hc (by omega) _ (by omega)]
    split
    ·rename_i hj';have:j=8 - n:=by omega
     subst this;rw[cl_canon (by omega),e];rfl
    ·exact h j (by omega)
   ·rintro ⟨hlt,hne⟩;apply hne;rw[h _ (by omega),cl_canon (by omega),hl.2.1,if_pos rfl]
    congr 1
    exact (least_eq hl.2.1 e).2 hl.2.2.1
theorem cl_canon_eq {M:Int→Int} {S:Nat} {s t:Int} (hs:(0≤s∧s≤8)∧S.testBit s.toNat=true) (ht:(0≤t∧t≤8)∧S.testBit t.toNat=true):cl (canon M S) s=cl (canon M S) t↔M s=M t:=by
 obtain ⟨i,rfl⟩:=Int.eq_ofNat_of_zero_le hs.1.1;obtain ⟨j,rfl⟩:=Int.eq_ofNat_of_zero_le ht.1.1;rw[Int.toNat_natCast] at hs ht;rw[cl_canon (by omega),cl_canon (by omega),hs.2,ht.2,if_pos rfl,if_pos rfl,Int.natCast_inj];exact least_eq hs.2 ht.2
theorem sat_case {a:Asn} (hv:a.valid=true) {S:Nat} (h0:S.testBit 0=true) (hS:∀ t∈mz a,S.testBit t.toNat=true) {M:Int→Int} (h:Sat M a):canon M S∈cases a S:=by
 have hok:=Asn.valid_ok hv;have hF:∀ f∈a.facts,S.testBit f.a.toNat=true∧S.testBit f.b.toNat=true:=fun f hf=>⟨hS _ (termsL_facts hf).1,hS _ (termsL_facts hf).2⟩
 have hX:∀ x∈a.atoms,S.testBit x.a.toNat=true∧S.testBit x.b.toNat=true:=fun x hx=>by
  have:x.a∈mz a∧x.b∈mz a:=by
   simp only[mz,List.mem_append,List.mem_flatMap];exact ⟨Or.inr ⟨x,hx,by simp[atomT]⟩,Or.inr ⟨x,hx,by simp[atomT]⟩⟩
  exact ⟨hS _ this.1,hS _ this.2⟩
 have hfill:∀ x∈a.atoms,inLast (canon M S) 8 x=fillM M x:=fun x hx=>by
  rw[inLast_fillM (hok.2 x hx)];unfold fillM
  congr 2
  rw[decide_eq_decide];exact cl_canon_eq ⟨(hok.2 x hx).1,(hX x hx).1⟩ ⟨(hok.2 x hx).2,(hX x hx).2⟩
 unfold cases;rw[List.mem_filter];refine ⟨canon_gen M S 9 zeros (by omega) rfl (fun j hj=>by omega),?_⟩;rw[full_poss hok.1 hok.2];unfold poss;rw[Bool.and_eq_true];constructor
 ·unfold possF;rw[List.all_eq_true];intro f hf
  have:f.fits (canon M S)=true:=by
   unfold Fct.fits;rw[beq_iff_eq,←h.facts f hf,decide_eq_decide];exact cl_canon_eq ⟨(hok.1 f hf).1,(hF f hf).1⟩ ⟨(hok.1 f hf).2,(hF f hf).2⟩
  rw[this];simp
 ·rw[possA_iff];refine ⟨fun x hx hi=>⟨fun e=>?_,by simp⟩,?_⟩
  ·rw[hfill x hx] at hi;refine h.nil x hx hi ((cl_canon_eq (S:=S) (t:=0) ⟨(hok.2 x hx).1,(hX x hx).1⟩ ⟨⟨by omega,by omega⟩,h0⟩).1 ?_);rw[e];have:=cl_canon (M:=M) (S:=S) (j:=0) (by omega);rw[h0,if_pos rfl] at this;have hl:=(least_spec (M:=M) h0).1;have h3:leastM M S 0=0:=by omega
   rw[h3] at this;exact this.symm
  ·rw[List.filter_congr hfill];have h3:=h.apart;unfold List.Nodup at h3 ⊢;rw[List.pairwise_map] at h3 ⊢;refine List.Pairwise.imp_of_mem ?_ h3;intro x y hx hy hxy e;have hx':=(List.mem_filter.1 hx).1;have hy':=(List.mem_filter.1 hy).1;exact hxy ((cl_canon_eq ⟨(hok.2 x hx').1,(hX x hx').1⟩ ⟨(hok.2 y hy').1,(hX y hy').1⟩).1 e)
def consB (a:Asn):Bool:=a.valid && !(cases a (caseS a 0)).isEmpty
/-! tidying -/
theorem swp_val {M:Int→Int} {x t:Int} (h:M x=M t) (s:Int):M (swp x t s)=M s:=by
 unfold swp;split
 ·rename_i e;rw[e,h]
 ·rfl
theorem Sat.subst {M:Int→Int} {a:Asn} (h:Sat M a) {x t:Int} (e:M x=M t):Sat M (substA x t a):=by
 have hfill:∀ z:Atm,fillM M (z.sub x t)=fillM M z:=fun z=>by
  unfold fillM Atm.sub;simp only[swp_val e]
 refine ⟨fun f hf=>?_,fun y hy hfi=>?_,?_⟩
 ·obtain ⟨g,hg,rfl⟩:=List.mem_map.1 hf;simp only[Fct.sub,swp_val e];exact h.facts g hg
 ·obtain ⟨z,hz,rfl⟩:=List.mem_map.1 hy;rw[hfill] at hfi;simp only[Atm.sub,swp_val e];exact h.nil z hz hfi
 ·have h3:=h.apart;simp only[substA,List.filter_map,List.map_map];rw[List.filter_congr (q:=fillM M) fun z _=>by simp[hfill]]
  have e2:((fun y:Atm=>M y.a)∘Atm.sub x t)=fun y:Atm=>M y.a:=by
   funext z;simp only[Function.comp,Atm.sub,swp_val e]
  rw[e2];exact h3
theorem Sat.less {M:Int→Int} {a:Asn} (h:Sat M a) {fs:List Fct} {xs:List Atm} (hf:∀ f∈fs,f∈a.facts) (hx:xs.Sublist a.atoms):Sat M ⟨fs,xs⟩:=
 ⟨fun f hm=>h.facts f (hf f hm),fun x hm=>h.nil x (hx.subset hm),h.apart.sublist ((hx.filter _).map _)⟩
theorem subOf_fact {K:Nat} {f:Fct} {x t:Int} (h:subOf K f=some (x,t)):f.eq=true:=by
 unfold subOf at h
 split at h
 ·rename_i hc;simp at hc;exact hc.1
 ·cases h
theorem Sat.subAll {M:Int→Int} {K:Nat}:∀ (n:Nat) (a:Asn),(left K a).length≤n→Sat M a→Sat M (subAll K a):=by
 intro n
 induction n with
 | zero=>
  intro a hn hv
  cases h:subStep K a.facts with
  | none=>rw[subAll_none h];exact hv
  | some p=>obtain ⟨x,t⟩:=p;have:=left_lt h;omega
 | succ n ih=>
  intro a hn hv
  cases h:subStep K a.facts with
  | none=>rw[subAll_none h];exact hv
  | some p=>
   obtain ⟨x,t⟩:=p;rw[subAll_some h];refine ih _ (by have:=left_lt h;omega) (hv.subst ?_);obtain ⟨f,hf,hs⟩:=List.exists_of_findSome?_eq_some h;have h1:=hv.facts f hf;rw[subOf_fact hs,decide_eq_true_eq] at h1;rcases (subOf_spec hs).2.2 with ⟨e1,e2⟩|⟨e1,e2⟩<;>rw[e1,e2]
   ·exact h1
   ·exact h1.symm
theorem nfold_mem (fs:List Fct):∀ (acc:List Fct) (g:Fct),g∈fs.foldl nfStep acc→g∈acc∨∃ f∈fs,g=nfF f:=by
 induction fs with
 | nil=>intro acc g h;exact Or.inl h
 | cons f fs ih=>
  intro acc g h;rw[List.foldl_cons] at h;rcases ih _ _ h with h|⟨f',hf',e⟩
  ·unfold nfStep at h
   split at h
   ·exact Or.inl h
   ·split at h
    ·exact Or.inl h
    ·rcases List.mem_append.1 h with h|h
     ·exact Or.inl h
     ·exact Or.inr ⟨f,List.mem_cons_self,List.mem_singleton.1 h⟩
  ·exact Or.inr ⟨f',List.mem_cons_of_mem _ hf',e⟩
theorem nfold_length (fs:List Fct):∀ (acc:List Fct),(fs.foldl nfStep acc).length≤acc.length+fs.length:=by
 induction fs with
 | nil=>intro acc;simp
 | cons f fs ih=>
  intro acc;rw[List.foldl_cons];have h1:=ih (nfStep acc f);have h2:=nfStep_length acc f;simp only[List.length_cons];omega
theorem Sat.normal {M:Int→Int} {a:Asn} (h:Sat M a):Sat M (normalF a):=by
 have hs:=h.less (fs:=[]) (xs:=a.atoms.filter nfA) (fun _ hf=>by cases hf) List.filter_sublist;refine ⟨fun g hg=>?_,hs.nil,hs.apart⟩;rcases nfold_mem _ _ _ hg with h1|⟨f,hf,rfl⟩
 ·cases h1
 ·have:=h.facts f hf;unfold nfF
  split
  ·simp only[];rw[←this,decide_eq_decide];exact eq_comm
  ·exact this
theorem normal_valid {a:Asn} (h:a.valid=true):(normalF a).valid=true:=by
 simp only[Asn.valid,factsValid,Bool.and_eq_true,decide_eq_true_eq,List.all_eq_true] at h ⊢;refine ⟨⟨?_,fun g hg=>?_⟩,?_,fun x hx=>?_⟩
 ·have:=nfold_length a.facts [];simp only[normalF,List.length_nil] at this ⊢;omega
 ·rcases nfold_mem _ _ _ hg with h1|⟨f,hf,rfl⟩
  ·cases h1
  ·have:=h.1.2 f hf;simp only[Fct.valid,Bool.and_eq_true] at this ⊢;unfold nfF
   split
   ·exact ⟨this.2,this.1⟩
   ·exact this
 ·have:=List.length_filter_le nfA a.atoms;simp only[normalF];omega
 ·exact h.2.2 x (List.mem_filter.1 hx).1
theorem keepF_valid {a:Asn} (p:Fct→Bool) (h:a.valid=true):(⟨a.facts.filter p,a.atoms⟩:Asn).valid=true:=by
 simp only[Asn.valid,factsValid,Bool.and_eq_true,decide_eq_true_eq,List.all_eq_true] at h ⊢;exact ⟨⟨Nat.le_trans (List.length_filter_le _ _) h.1.1,fun f hf=>h.1.2 f (List.mem_filter.1 hf).1⟩,h.2⟩
theorem tidy_valid {K:Nat} {a:Asn} (h:a.valid=true):(tidyF K a).valid=true:=normal_valid (keepF_valid _ (subAll_valid _ a (Nat.le_refl _) h))
end
section
open Go Go.RowKit
end
section
open Go Go.RowKit Go.Proofs
theorem imp_iff {a:Asn} {f:Fct}:impB a f=true↔a.valid=true∧f.valid=true∧∀ M,Sat M a→decide (M f.a=M f.b)=f.eq:=by
 unfold impB;rw[Bool.and_eq_true,Bool.and_eq_true,and_assoc,List.all_eq_true];constructor
 ·rintro ⟨h1,h2,h3⟩;refine ⟨h1,h2,fun M hM=>?_⟩;have hfo:=Fct.valid_ok h2;have ha:jq f.a=true:=by simp[jq];omega
  have hb:jq f.b=true:=by simp[jq];omega
  have hbit:∀ j:Nat,(factS f).testBit j=(decide (f.a=(j:Int)) || decide (f.b=(j:Int))):=fun j=>by
   rw[tins_bit,tins_bit,Nat.zero_testBit,ha,hb];simp
  have b1:(caseS a (factS f)).testBit f.a.toNat=true:=by rw[caseS_bit,hbit,Int.toNat_of_nonneg hfo.1.1];simp
  have b2:(caseS a (factS f)).testBit f.b.toNat=true:=by rw[caseS_bit,hbit,Int.toNat_of_nonneg hfo.2.1];simp
  have hc:=sat_case h1 (caseS_zero a (factS f)) (caseS_terms h1 (factS f)) hM;have h4:=h3 _ hc;have h5:=cl_canon_eq (M:=M) (S:=caseS a (factS f)) ⟨hfo.1,b1⟩ ⟨hfo.2,b2⟩;simp only[Fct.fits,beq_iff_eq] at h4;rw[←h4,decide_eq_decide];exact h5.symm
 ·rintro ⟨h1,h2,h3⟩;refine ⟨h1,h2,fun c hc=>?_⟩;have:=h3 _ (case_sat h1 (caseS_zero a (factS f)) hc);simp only[Fct.fits,beq_iff_eq];exact this
def emptyX (a:Asn) (x:Atm) (i:Nat):Asn:=⟨a.facts++[⟨true,x.a,x.b⟩],zv a.atoms i⟩
def fullX (a:Asn) (x:Atm) (i:Nat) (m:Int):Asn:=⟨a.facts++[⟨false,x.a,x.b⟩],([⟨1,x.a,m⟩]++zv a.atoms i)++[⟨2,m,x.b⟩]⟩
theorem without_perm {xs:List Atm} {i:Nat} {x:Atm} (h:xs[i]? = some x):xs.Perm (x :: zv xs i):=by
 obtain ⟨hi,rfl⟩:=List.getElem?_eq_some_iff.1 h;have e:xs=xs.take i++xs[i] :: xs.drop (i+1):=by rw[←List.drop_eq_getElem_cons hi,List.take_append_drop]
 conv=>lhs;rw[e]
 exact List.perm_middle
theorem full_sat {M:Int→Int} {a:Asn} {x:Atm} {i:Nat} {m:Int} (hx:a.atoms[i]? = some x) (hk:x.kind=2) (h:Sat M (fullX a x i m)):Sat M a:=by
 have hp:=without_perm hx;have hne:decide (M x.a=M x.b)=false:=h.facts ⟨false,x.a,x.b⟩ (by simp[fullX]);have hfx:fillM M x=true:=by simp[fillM,hne]
 have hf1:fillM M ⟨1,x.a,m⟩=true:=by simp[fillM]
 refine ⟨fun f hf=>h.facts f (by simp[fullX,hf]),fun y hy hfy=>?_,?_⟩
 ·rcases List.mem_cons.1 (hp.mem_iff.1 hy) with rfl|hy
  ·exact h.nil ⟨1,y.a,m⟩ (by simp[fullX]) hf1
  ·exact h.nil y (by simp[fullX,hy]) hfy
 ·have h2:=h.apart;refine ((hp.filter (fillM M)).map fun x=>M x.a).nodup_iff.2 ?_;rw[List.filter_cons,if_pos hfx];simp only[fullX,List.filter_append,List.map_append,List.append_assoc,List.singleton_append,List.filter_cons,List.cons_append,if_pos hf1,List.map_cons,List.filter_nil,List.nil_append] at h2;refine List.Nodup.sublist ?_ h2;simp only[List.map_cons];exact List.Sublist.cons_cons _ (List.sublist_append_left _ _)
theorem full_imp {a:Asn} {x:Atm} {i:Nat} {m t:Int} (hx:a.atoms[i]? = some x) (hk:x.kind=2) (hf:(fullX a x i m).valid=true) (h:impB a ⟨true,x.a,t⟩=true):impB (fullX a x i m) ⟨true,x.a,t⟩=true:=by
 rw[imp_iff] at h ⊢;exact ⟨hf,h.2.1,fun M hM=>h.2.2 M (full_sat hx hk hM)⟩
theorem find_some {a:Asn} {kind t:Int} {i:Nat} (h:findK a kind t=some i):∃ x,a.atoms[i]? = some x∧x.kind=kind∧impB a ⟨true,x.a,t⟩=true∧i<a.atoms.length:=by
 have h1:=List.find?_some h;unfold findP at h1
 cases e:a.atoms[i]? with
 | none=>rw[e] at h1;cases h1
 | some x=>
  rw[e] at h1;simp only[Bool.and_eq_true,decide_eq_true_eq] at h1;exact ⟨x,rfl,h1.1,h1.2,(List.getElem?_eq_some_iff.1 e).1⟩
theorem full_find {a:Asn} {x:Atm} {i:Nat} {m t:Int} (hx:a.atoms[i]? = some x) (hk:x.kind=2) (hf:(fullX a x i m).valid=true) (h:impB a ⟨true,x.a,t⟩=true):findK (fullX a x i m) 1 t=some 0:=by
 refine findK_yes (by simp[fullX]) (fun j hj=>by omega) ?_;unfold findP;have:(fullX a x i m).atoms[0]? = some ⟨1,x.a,m⟩:=by simp[fullX]
 rw[this];simp[full_imp hx hk hf h]
def exposeF:Nat→Asn→Int→Nat→Option (List Asn)
 | 0,_,_,_=>none
 | n+1,a,t,K=>
  if a.valid=false then none
  else if consB a=false then some []
  else match findK a 1 t with
   | some i=>if (cellX a (a.atoms[i]?.getD default) i t).valid then some [cellX a (a.atoms[i]?.getD default) i t] else none
   | none=>match findK a 2 t with
    | none=>none
    | some i=>match newT (tset (mz a)|||tins K t) with
     | none=>none
     | some m=>match exposeF n (emptyX a (a.atoms[i]?.getD default) i) t K with
      | none=>none
      | some l1=>match exposeF n (fullX a (a.atoms[i]?.getD default) i (m:Int)) t K with
       | none=>none
       | some l2=>some (l1++l2)
abbrev RowT:=List Fct ⊕ List Atm
def rlen:RowT→Nat | .inl fs=>fs.length | .inr xs=>xs.length
def RowO (w:World) (base:Nat) (v:Value):RowT→Prop | .inl fs=>FactsO w base v fs | .inr xs=>AtomsO w base v xs
def RowV (w:World) (lo hi:Nat) (A:Option Addr):RowT→Prop | .inl fs=>FactsV w lo hi A fs | .inr xs=>AtomsV w lo hi A xs
section
variable {w w':World} {base base' lo hi:Nat} {v:Value} {A:Option Addr}
theorem RowO.bz {r:RowT} (h:RowO w base v r) (hb:Below w.heap.size w w'):RowO w' base v r:=by cases r;exact FactsO.bz h hb;exact AtomsO.bz h hb
theorem RowO.bq {r:RowT} (h:RowO w base v r) (hb:base'≤base):RowO w base' v r:=by cases r;exact FactsO.bq h hb;exact AtomsO.bq h hb
theorem RowO.setT {r:RowT} (h:RowO w base v r) {g:Nat} {t:TypeId} {cs:Array Value} (hk:Blk w g t cs) (h1:t≠tF) (h2:t≠tA) (i:Nat) (u:Value):RowO (w.setCell ⟨g,i,none⟩ u) base v r:=by cases r;exact FactsO.setT h hk h1 i u;exact AtomsO.setT h hk h2 i u
theorem RowO.setb {r:RowT} (h:RowO w base v r) {p:Addr} (hp:p.block<base) (u:Value):RowO (w.setCell p u) base v r:=by cases r;exact FactsO.setb h hp u;exact AtomsO.setb h hp u
theorem RowO.lt {r:RowT} (h:RowO w base v r):∀ g,v.ownBlock=some g→base≤g∧g<w.heap.size:=by cases r;exact h.1.lt;exact h.1.lt
theorem RowO.mk {p:Nat→Prop} {r:RowT} (h:RowO w base v r) (hb:Mk p w w') (hp:∀ g,v.ownBlock=some g→¬p g):RowO w' base v r:=by cases r;exact FactsO.mk h hb hp;exact AtomsO.mk h hb hp
theorem RowO.grown {r:RowT} (h:RowO w base v r) {e:TypeId} {b s n:Nat} {v':Value} {xs:List Value} (h':w.ownsRow b e s v' n xs) (hg:w.grownBy w' v'.ownBlock) (h1:tF≠e) (h2:tA≠e):RowO w' base v r:=by
 cases r
 ·exact ⟨own_grownO h.1 h' hg h1,h.2⟩
 ·exact ⟨own_grownO h.1 h' hg h2,h.2⟩
theorem RowO.turn {T:TypeId} {B:Nat} {row:Option Nat} {r:RowT} (h:RowO w base v r) (hg:w.grownBy w' row) (hr:Turn T B w row) (h1:tF≠T) (h2:tA≠T):RowO w' base v r:=by
 cases r
 ·exact ⟨own_turn h.1 hg hr h1,h.2⟩
 ·exact ⟨own_turn h.1 hg hr h2,h.2⟩
theorem RowO.rj {r:RowT} (h:RowO w base v r):∃ B c,v=.slice B (rlen r) c∧RowV w base w.heap.size B r:=by
 cases r
 ·obtain ⟨B,c,e,h1⟩:=FactsO.rj h;exact ⟨B,c,e,h1⟩
 ·obtain ⟨B,c,e,h1⟩:=AtomsO.rj h;exact ⟨B,c,e,h1⟩
theorem RowV.bz {r:RowT} (h:RowV w lo hi A r) (hb:Below w.heap.size w w'):RowV w' lo hi A r:=by cases r;exact FactsV.bz h hb;exact AtomsV.bz h hb
end
def totR (rs:List RowT):Nat:=(rs.map fun r=>3 * rlen r).sum
theorem totR_cons (r:RowT) (rs:List RowT):totR (r :: rs)=3 * rlen r+totR rs:=by simp[totR]
def rowsA (ss:List Asn):List RowT:=ss.flatMap fun s=>[.inl s.facts,.inr s.atoms]
theorem rowsA_len:∀ (ss:List Asn),(rowsA ss).length=ss.length * 2
 | []=>rfl
 | s :: ss=>by
  have:=rowsA_len ss;simp only[rowsA,List.flatMap_cons,List.length_append,List.length_cons,List.length_nil] at this ⊢;omega
theorem rowsA_get:∀ (ss:List Asn) (k:Nat) (hk:k<ss.length),(rowsA ss)[k*2]? = some (.inl ss[k].facts)∧(rowsA ss)[k*2+1]? = some (.inr ss[k].atoms)
 | s :: ss,0,_=>by simp[rowsA]
 | s :: ss,k+1,hk=>by
  have h1:=rowsA_get ss k (by simpa using hk);have e:rowsA (s :: ss)=[.inl s.facts,.inr s.atoms]++rowsA ss:=rfl;rw[e,List.getElem?_append_right (by simp;omega),List.getElem?_append_right (by simp;omega)];simp only[List.length_cons,List.length_nil,List.getElem_cons_succ];rw[show (k+1) * 2 - (0+1+1)=k * 2 by omega,show (k+1) * 2+1 - (0+1+1)=k * 2+1 by omega];exact h1
theorem rowsA_append (ss ts:List Asn):rowsA (ss++ts)=rowsA ss++rowsA ts:=by simp[rowsA]
def totA (ss:List Asn):Nat:=totR (rowsA ss)
theorem totA_cons (s:Asn) (ss:List Asn):totA (s :: ss)=3 * s.facts.length+3 * s.atoms.length+totA ss:=by
 have e:rowsA (s :: ss)=.inl s.facts :: .inr s.atoms :: rowsA ss:=rfl;unfold totA;rw[e,totR_cons,totR_cons];simp only[rlen];omega
theorem totA_le {n m:Nat}:∀ {ss:List Asn},(∀ s∈ss,s.facts.length≤n∧s.atoms.length≤m)→totA ss≤ss.length * (3 * n+3 * m)
 | [],_=>by simp[totA,totR,rowsA]
 | s :: ss,h=>by
  have h1:=totA_le (ss:=ss) fun x hx=>h x (List.mem_cons_of_mem _ hx);have h2:=h s (List.mem_cons_self ..);rw[totA_cons,List.length_cons,Nat.add_mul,Nat.one_mul];omega
structure AEls (w:World) (base:Nat) (vs:List Value) (ss:List Asn):Prop where
 len:vs.length=(rowsA ss).length
 at_:∀ (k:Nat) (h:k<vs.length) (h':k<(rowsA ss).length),RowO w base vs[k] (rowsA ss)[k]
 apart:∀ (i j:Nat) (hi:i<vs.length) (hj:j<vs.length),i<j→∀ g,vs[i].ownBlock=some g→vs[j].ownBlock≠some g
structure A2O (w:World) (base:Nat) (v:Value) (vs:List Value) (ss:List Asn):Prop where
 row:w.ownsRow base tAs 2 v ss.length vs
 lim:Lim ss.length
 els:AEls w base vs ss
theorem infoAs2:(Tryz.prog.info? tAs).map (fun i=>(i.zero,i.size,i.bytes))=some (some (.agg #[.slice none 0 0,.slice none 0 0]),2,48):=by kernel_rfl
section
variable {w w':World} {base base' mid:Nat} {v:Value} {vs vs2:List Value} {ss ss2:List Asn}
theorem AEls.bz (h:AEls w base vs ss) (hb:Below w.heap.size w w'):AEls w' base vs ss:=⟨h.len,fun k h1 h2=>(h.at_ k h1 h2).bz hb,h.apart⟩
theorem AEls.bq (h:AEls w base vs ss) (hb:base'≤base):AEls w base' vs ss:=⟨h.len,fun k h1 h2=>(h.at_ k h1 h2).bq hb,h.apart⟩
theorem AEls.setb (h:AEls w base vs ss) {p:Addr} (hp:p.block<base) (u:Value):AEls (w.setCell p u) base vs ss:=⟨h.len,fun k a b=>(h.at_ k a b).setb hp u,h.apart⟩
theorem AEls.setT (h:AEls w base vs ss) {g:Nat} {t:TypeId} {cs:Array Value} (hk:Blk w g t cs) (h1:t≠tF) (h2:t≠tA) (i:Nat) (u:Value):AEls (w.setCell ⟨g,i,none⟩ u) base vs ss:=⟨h.len,fun k a b=>(h.at_ k a b).setT hk h1 h2 i u,h.apart⟩
theorem AEls.grown (h:AEls w base vs ss) {e:TypeId} {b s n:Nat} {v':Value} {xs:List Value} (h':w.ownsRow b e s v' n xs) (hg:w.grownBy w' v'.ownBlock) (h1:tF≠e) (h2:tA≠e):AEls w' base vs ss:=⟨h.len,fun k a b=>(h.at_ k a b).grown h' hg h1 h2,h.apart⟩
theorem AEls.turn {T:TypeId} {B:Nat} {row:Option Nat} (h:AEls w base vs ss) (hg:w.grownBy w' row) (hr:Turn T B w row) (h1:tF≠T) (h2:tA≠T):AEls w' base vs ss:=⟨h.len,fun k a b=>(h.at_ k a b).turn hg hr h1 h2,h.apart⟩
theorem AEls.nil (w:World) (base:Nat):AEls w base [] []:=⟨rfl,fun k h=>absurd h (by simp),fun i j h=>absurd h (by simp)⟩
theorem AEls.und (h:AEls w base vs ss):∀ (k:Nat) (hk:k<vs.length),Und vs[k] w.heap.size:=fun k hk g hg=>((h.at_ k hk (by rw[←h.len];exact hk)).lt g hg).2
theorem AEls.one {s1 s2:Value} {s:Asn} (h:AsnO w base (.agg #[s1,s2]) s):AEls w base [s1,s2] [s]:=by
 obtain ⟨_,_,e,n1,n2⟩:=h;injection e with e;injection e with e;injection e with e1 e2;injection e2 with e2 e3;subst e1 e2;refine ⟨rfl,fun k h1 h2=>?_,fun i j hi hj hij g hgi hgj=>?_⟩
 ·have hk:k=0∨k=1:=by simp at h1;omega
  rcases hk with rfl|rfl
  ·exact n1
  ·exact n2
 ·have:i=0∧j=1:=by simp at hj;omega
  obtain ⟨rfl,rfl⟩:=this;exact own_ne n1.1 n2.1 (by decide) g hgi hgj
theorem AEls.cat (h:AEls w base vs ss) (h2:AEls w mid vs2 ss2) (hb:base≤mid) (hu:∀ (k:Nat) (hk:k<vs.length),Und vs[k] mid):AEls w base (vs++vs2) (ss++ss2):=by
 have er:=rowsA_append ss ss2;have hlen:=h.len;refine ⟨by rw[er,List.length_append,List.length_append,h.len,h2.len],fun k k1 k2=>?_,fun i j hi hj hij g hgi hgj=>?_⟩
 ·by_cases e:k<vs.length
  ·have e':k<(rowsA ss).length:=by omega
   simp only[er,List.getElem_append,e,e',dite_true];exact h.at_ k e e'
  ·have e':¬k<(rowsA ss).length:=by omega
   simp only[er,List.getElem_append,e,e',dite_false];have l1:k - vs.length<vs2.length:=by simp at k1;omega
   have l2:k - (rowsA ss).length<(rowsA ss2).length:=by rw[er] at k2;simp at k2;omega
   have:=h2.at_ (k - vs.length) l1 (by rw[←h2.len];exact l1);have e3:k - vs.length=k - (rowsA ss).length:=by omega
   simp only[e3] at this ⊢;exact this.bq hb
 ·by_cases ej:j<vs.length
  ·have ei:i<vs.length:=by omega
   simp only[List.getElem_append,ei,ej,dite_true] at hgi hgj;exact h.apart i j ei ej hij g hgi hgj
  ·have lj:j - vs.length<vs2.length:=by simp at hj;omega
   by_cases ei:i<vs.length
   ·simp only[List.getElem_append,ei,ej,dite_true,dite_false] at hgi hgj;have e1:=hu i ei g hgi;have e2:=((h2.at_ (j - vs.length) lj (by rw[←h2.len];exact lj)).lt g hgj).1;omega
   ·simp only[List.getElem_append,ei,ej,dite_false] at hgi hgj;exact h2.apart (i - vs.length) (j - vs.length) (by omega) lj (by omega) g hgi hgj
theorem A2O.bz (h:A2O w base v vs ss) (hb:Below w.heap.size w w'):A2O w' base v vs ss:=⟨own_below h.row hb,h.lim,h.els.bz hb⟩
theorem A2O.bq (h:A2O w base v vs ss) (hb:base'≤base):A2O w base' v vs ss:=⟨own_lower h.row hb,h.lim,h.els.bq hb⟩
theorem A2O.setb (h:A2O w base v vs ss) {p:Addr} (hp:p.block<base) (u:Value):A2O (w.setCell p u) base v vs ss:=⟨ownsRow_setCell_below h.row hp u,h.lim,h.els.setb hp u⟩
theorem A2O.setT (h:A2O w base v vs ss) {g:Nat} {t:TypeId} {cs:Array Value} (hk:Blk w g t cs) (h0:t≠tAs) (h1:t≠tF) (h2:t≠tA) (i:Nat) (u:Value):A2O (w.setCell ⟨g,i,none⟩ u) base v vs ss:=
 ⟨own_setT h.row hk h0 i u,h.lim,h.els.setT hk h1 h2 i u⟩
theorem A2O.nil (w:World) (base:Nat):A2O w base (.slice none 0 0) [] []:=⟨World.ownsRow_nil _ _ _ _,by simp[Lim],AEls.nil _ _⟩
theorem A2O.empty (w:World) {g:Nat} (hg:g=w.heap.size):A2O (w.alloc (.cells #[] tAs)) g (.slice (some ⟨g,0,none⟩) 0 0) [] []:=by
 subst hg;exact ⟨own_empty w _ _,by simp[Lim],AEls.nil _ _⟩
theorem A2O.ofBlk {g:Nat} (h:Blk w g tAs #[]) (hb:base≤g):A2O w base (.slice (some ⟨g,0,none⟩) 0 0) [] []:=⟨own_ofBlk h hb,by simp[Lim],AEls.nil _ _⟩
theorem A2O.one {g:Nat} {s1 s2:Value} {s:Asn} (hk:Blk w g tAs #[s1,s2]) (hg:base≤g) (h:AsnO w base (.agg #[s1,s2]) s):A2O w base (.slice (some ⟨g,0,none⟩) 1 1) [s1,s2] [s]:=
 ⟨own_of_blk hk hg rfl (fun j hj=>by
  match j,hj with
  | 0,_=>rfl
  | 1,_=>rfl) (Nat.le_refl _) (by decide) rfl,by simp[Lim],AEls.one h⟩
theorem A2O.form (h:A2O w base v vs ss):∃ A c,v=.slice A ss.length c:=by
 obtain ⟨A,c,e,-⟩:=own_reads h.row h.lim;exact ⟨A,c,e⟩
theorem A2O.und (h:A2O w base v vs ss):Und v w.heap.size:=fun g hg=>(h.row.lt g hg).2
theorem A2O.cat {w1:World} {v' v2:Value} (h:A2O w base v vs ss) (hb:Below w.heap.size w w1) (h2:A2O w1 mid v2 vs2 ss2) (hbm:base≤mid) (hm:w.heap.size≤mid) (hl:ss.length+ss2.length≤1049600)
  (hg:w1.grownBy w' v.ownBlock) (hr:w'.ownsRow base tAs 2 v' (ss.length+ss2.length) (vs++vs2)):A2O w' base v' (vs++vs2) (ss++ss2):=by
 have hrow:=own_below h.row hb;refine ⟨by rw[List.length_append];exact hr,by rw[List.length_append];exact hl,?_⟩;exact ((h.els.bz hb).grown hrow hg (by decide) (by decide)).cat (h2.els.grown hrow hg (by decide) (by decide)) hbm fun k hk=>(h.els.und k hk).mono hm
theorem RowO.one {w:World} {b:Nat} {v:Value} {r:RowT} (h:RowO w b v r):v.oneCell'=true:=by obtain ⟨A,c,rfl,-⟩:=h.rj;rfl
theorem AEls.one_cell (h:AEls w base vs ss):∀ u∈vs,u.oneCell'=true:=by
 intro u hu;obtain ⟨k,hk,rfl⟩:=List.getElem_of_mem hu;exact (h.at_ k hk (by rw[←h.len];exact hk)).one
def AsnsV (w:World) (lo hi:Nat) (A:Option Addr) (ss:List Asn):Prop:=
 ∃ vs:List Value,Rd w lo hi 2 A ss.length vs∧∀ (k:Nat) (h:k<vs.length) (h':k<(rowsA ss).length),∃ B c,vs[k]=.slice B (rlen (rowsA ss)[k]) c∧RowV w lo hi B (rowsA ss)[k]
theorem AsnsV.bz {lo hi:Nat} {A:Option Addr} (h:AsnsV w lo hi A ss) (hb:Below w.heap.size w w'):AsnsV w' lo hi A ss:=by
 obtain ⟨vs,h1,h2⟩:=h;exact ⟨vs,h1.bz hb,fun k a b=>by obtain ⟨B,c,e,h3⟩:=h2 k a b;exact ⟨B,c,e,h3.bz hb⟩⟩
theorem AsnsV.at {lo hi:Nat} {A:Option Addr} (h:AsnsV w lo hi A ss) {k:Nat} (hk:k<ss.length):∃ b o B c D d,A=some ⟨b,o,none⟩∧b<w.heap.size∧w.cell? ⟨b,o+k*2,none⟩=some (.slice B ss[k].facts.length c)∧w.cell? ⟨b,o+k*2+1,none⟩=some (.slice D ss[k].atoms.length d)∧FactsV w lo hi B ss[k].facts∧AtomsV w lo hi D ss[k].atoms:=by
 obtain ⟨vs,h1,h2⟩:=h;have hl:vs.length=ss.length * 2:=h1.raw.1;have hr:=rowsA_len ss;obtain ⟨b,o,e,-,-,hc⟩:=h1.raw.form (by omega);obtain ⟨g1,g2⟩:=rowsA_get ss k hk;obtain ⟨B,c,e1,v1⟩:=h2 (k*2) (by omega) (by omega);obtain ⟨D,d,e2,v2⟩:=h2 (k*2+1) (by omega) (by omega);have x1:(rowsA ss)[k*2]'(by omega)=.inl ss[k].facts:=by rw[List.getElem?_eq_getElem (by omega)] at g1;exact Option.some.inj g1
 have x2:(rowsA ss)[k*2+1]'(by omega)=.inr ss[k].atoms:=by rw[List.getElem?_eq_getElem (by omega)] at g2;exact Option.some.inj g2
 rw[x1] at e1 v1;rw[x2] at e2 v2;have c1:=hc (k*2) _ (List.getElem?_eq_getElem (by omega));have c2:=hc (k*2+1) _ (List.getElem?_eq_getElem (by omega));rw[e1] at c1;rw[e2] at c2;exact ⟨b,o,B,c,D,d,e,block_lt_of_cell c1,c1,c2,v1,v2⟩
theorem A2O.rj {A:Option Addr} {n c:Nat} (h:A2O w base (.slice A n c) vs ss):n=ss.length∧AsnsV w base w.heap.size A ss:=by
 obtain ⟨A',c',e,h1⟩:=own_reads h.row h.lim;injection e with e1 e2 e3;subst e1;refine ⟨e2,vs,h1,fun k a b=>?_⟩;obtain ⟨B,d,e,h3⟩:=(h.els.at_ k a b).rj;exact ⟨B,d,e,h3⟩
end
def AsnsI (w:World) (lo hi:Nat) (v:Value) (ss:List Asn):Prop:=∃ vs,A2O w lo v vs ss∧Und v hi∧(∀ (k:Nat) (h:k<vs.length),Und vs[k] hi)∧totA ss≤16777216
def AsnsR (w:World) (base:Nat) (v:Value) (ss:List Asn):Prop:=(∃ vs,A2O w base v vs ss)∧totA ss≤16777216
section
variable {w w':World} {lo hi a b:Nat} {v:Value} {ss:List Asn}
theorem AsnsR.I {base:Nat} (h:AsnsR w base v ss):AsnsI w base w.heap.size v ss:=by
 obtain ⟨⟨vs,h⟩,hb⟩:=h;exact ⟨vs,h,h.und,h.els.und,hb⟩
theorem AsnsR.bz {base:Nat} (h:AsnsR w base v ss) (hb:Below w.heap.size w w'):AsnsR w' base v ss:=by obtain ⟨⟨vs,h1⟩,h2⟩:=h;exact ⟨⟨vs,h1.bz hb⟩,h2⟩
theorem AsnsR.bq {base base':Nat} (h:AsnsR w base v ss) (hb:base'≤base):AsnsR w base' v ss:=by obtain ⟨⟨vs,h1⟩,h2⟩:=h;exact ⟨⟨vs,h1.bq hb⟩,h2⟩
theorem AsnsR.setb {base:Nat} (h:AsnsR w base v ss) {p:Addr} (hp:p.block<base) (u:Value):AsnsR (w.setCell p u) base v ss:=by obtain ⟨⟨vs,h1⟩,h2⟩:=h;exact ⟨⟨vs,h1.setb hp u⟩,h2⟩
theorem AsnsR.form {base:Nat} (h:AsnsR w base v ss):∃ A c,v=.slice A ss.length c:=by obtain ⟨⟨vs,h1⟩,h2⟩:=h;exact h1.form
theorem AsnsR.nil (w:World) (base:Nat):AsnsR w base (.slice none 0 0) []:=⟨⟨_,A2O.nil _ _⟩,by simp[totA,totR,rowsA]⟩
theorem AsnsI.bz (h:AsnsI w lo hi v ss) (hb:Below w.heap.size w w'):AsnsI w' lo hi v ss:=by
 obtain ⟨vs,h1,h2⟩:=h;exact ⟨vs,h1.bz hb,h2⟩
theorem AsnsI.mk (h:AsnsI w lo hi v ss) (hb:Mk (fun g=>a≤g∧g<b) w w') (hd:hi≤a∨b≤lo):AsnsI w' lo hi v ss:=by
 obtain ⟨vs,h1,h2,h3,h4⟩:=h;refine ⟨vs,⟨own_mk h1.row hb fun g hg hp=>by have:=und_range h1.row h2 g hg;omega,h1.lim,h1.els.len,fun k x y=>?_,h1.els.apart⟩,h2,h3,h4⟩;exact (h1.els.at_ k x y).mk hb fun g hg hp=>by have:=(h1.els.at_ k x y).lt g hg;have:=h3 k x g hg;omega
theorem AsnsI.form (h:AsnsI w lo hi v ss):∃ A c,v=.slice A ss.length c:=by obtain ⟨vs,h1,-⟩:=h;exact h1.form
theorem AsnsI.rj {A:Option Addr} {n c:Nat} (h:AsnsI w lo hi (.slice A n c) ss):AsnsV w lo w.heap.size A ss:=by obtain ⟨vs,h1,-⟩:=h;exact h1.rj.2
theorem AsnsI.len (h:AsnsI w lo hi v ss):ss.length≤1049600∧totA ss≤16777216:=by obtain ⟨vs,h1,-,-,h4⟩:=h;exact ⟨h1.lim,h4⟩
end
theorem A2O.at {w:World} {base n c k:Nat} {A:Option Addr} {vs:List Value} {ss:List Asn} (h:A2O w base (.slice A n c) vs ss) (hk:k<vs.length) (hr:k<(rowsA ss).length):∃ b o B d,A=some ⟨b,o,none⟩∧b<w.heap.size∧w.cell? ⟨b,o+k,none⟩=some (.slice B (rlen (rowsA ss)[k]) d)∧vs[k]=.slice B (rlen (rowsA ss)[k]) d:=by
 obtain ⟨A',c',e,h1⟩:=own_reads h.row h.lim;injection e with e1 e2 e3;subst e1;have hl:vs.length=ss.length * 2:=h1.raw.1;obtain ⟨b,o,e,-,-,hc⟩:=h1.raw.form (by omega);obtain ⟨B,d,e2,-⟩:=(h.els.at_ k hk hr).rj;have c1:=hc k _ (List.getElem?_eq_getElem hk);rw[e2] at c1;exact ⟨b,o,B,d,e,block_lt_of_cell c1,c1,e2⟩
theorem mkAs0 (n:Nat) (h:Lim n) (w:World):(Instr.makeSlice 83 (.int .i64 0) (.int .i64 (n:Int))).run Tryz.prog w=.ok (.slice (some ⟨w.heap.size,0,none⟩) 0 n) (w.alloc (.cells (madeCells #[.slice none 0 0,.slice none 0 0] (n * 2)) tAs)):=by
 obtain ⟨i,hi,hz,hs,hb⟩:=info_parts infoAs2;have:=run_make_rowN (P:=Tryz.prog) 83 tAs i _ Tryz.underlying83 hi hz .i64 .i64 0 n (Nat.zero_le _) (by rw[hb];unfold Lim at h;omega) (by unfold Lim at h;omega) w
 rwa [hs] at this
theorem madeAs (w:World) (n:Nat) (h:n≤1049600):(w.alloc (.cells (madeCells #[.slice none 0 0,.slice none 0 0] (n * 2)) tAs)).ownsRow w.heap.size tAs 2 (.slice (some ⟨w.heap.size,0,none⟩) 0 n) 0 []:=
 World.ownsRow_made w _ n (Nat.le_refl _) (by unfold maxLen;omega) (by rw[size_madeCells])
theorem c_joinAs {lo hi lo' hi':Nat} (A A':Option Addr) (n m c c':Nat) (vs vs':List Value) (w:World) (h:Rd w lo hi 2 A n vs) (h':Rd w lo' hi' 2 A' m vs') (h1:∀ u∈vs,u.oneCell'=true) (h1':∀ u∈vs',u.oneCell'=true) (hn:n+m≤1049600) :
  Calls Tryz.prog 302 #[.slice A n c,.slice A' m c'] w fun e w'=>∃ r,e=.returned r∧w'.ownsRow w.heap.size tAs 2 r (n+m) (vs++vs')∧Below w.heap.size w w':=by
 have hmk:=mkAs0 (n+m) hn;simp only[Int.natCast_add] at hmk;have hO0:=ax (madeAs w (n+m) hn);have hnl:=h.lim;have hml:=h'.lim;have H:=ax h;have H':=ax h';have H1:=ax h1;have H1':=ax h1';clear h h' h1 h1';(go_enter Tryz.func302,Tryz.ntmps302)
 go_wp2_with (first
  | (at_builtin;(refine wpList_appL rfl _ _ 83 rfl Tryz.underlying83 infoAs2 rfl (by decide) (by decide) rfl hO0.o rfl (H.o.bz bel).raw H1.o (by omega) (by simp) ?_);intro v1 w1 hO1 hg1 hB1;simp only[Nat.zero_add,List.nil_append] at hO1;have hB:Below w.heap.size w w1:=Below.trans bel hB1;obtain ⟨A1,d1,rfl,-⟩:=own_reads hO1 (by unfold Lim;omega))
  | (at_builtin;refine wpList_appL rfl _ _ 83 rfl Tryz.underlying83 infoAs2 rfl (by decide) (by decide) rfl hO1 rfl (H'.o.bz hB).raw H1'.o (by omega) hB.size ?_;intro v2 w2 hO2 hg2 hB2;obtain ⟨A2,d2,rfl,-⟩:=own_reads hO2 (by unfold Lim;omega)))
 go_ret;exact ⟨_,rfl,by simpa using hO2,hB.trans hB2⟩
end
section
open Go Go.RowKit Go.Proofs
attribute [local go_sem ↓] Go.wp_at_zero Go.wp_at_succ
def listF (n:Nat) (a:Asn) (x:Atm) (i:Nat) (t:Int) (K:Nat):Option (List Asn):=
 match newT (tset (mz a)|||tins K t) with
 | none=>none
 | some m=>match exposeF n (emptyX a x i) t K with
  | none=>none
  | some l1=>match exposeF n (fullX a x i (m:Int)) t K with
   | none=>none
   | some l2=>some (l1++l2)
theorem expose_bad {n:Nat} {a:Asn} {t:Int} {K:Nat} (h:a.valid=false):exposeF n a t K=none:=by
 cases n with
 | zero=>rfl
 | succ n=>simp[exposeF,h]
theorem expose_no {n:Nat} {a:Asn} {t:Int} {K:Nat} (h:a.valid=true) (hc:consB a=false):exposeF (n+1) a t K=some []:=by simp[exposeF,h,hc]
theorem expose_cell {n:Nat} {a:Asn} {t:Int} {K i:Nat} {x:Atm} (h:a.valid=true) (hc:consB a=true) (hf:findK a 1 t=some i) (hx:a.atoms[i]? = some x):exposeF (n+1) a t K=if (cellX a x i t).valid then some [cellX a x i t] else none:=by
 simp[exposeF,h,hc,hf,hx]
theorem expose_none {n:Nat} {a:Asn} {t:Int} {K:Nat} (h:a.valid=true) (hc:consB a=true) (hf:findK a 1 t=none) (hg:findK a 2 t=none):exposeF (n+1) a t K=none:=by simp[exposeF,h,hc,hf,hg]
theorem expose_list {n:Nat} {a:Asn} {t:Int} {K i:Nat} {x:Atm} (h:a.valid=true) (hc:consB a=true) (hf:findK a 1 t=none) (hg:findK a 2 t=some i) (hx:a.atoms[i]? = some x):exposeF (n+1) a t K=listF n a x i t K:=by
 simp only[exposeF,h,hc,hf,hg,hx,listF,Option.getD_some];rfl
theorem expose_ok:∀ {n:Nat} {a:Asn} {t:Int} {K:Nat} {l:List Asn},exposeF n a t K=some l→l.length≤2 ^ n∧∀ b∈l,b.valid=true
 | 0,_,_,_,_,h=>by cases h
 | n+1,a,t,K,l,h=>by
  unfold exposeF at h
  split at h
  ·cases h
  ·split at h
   ·obtain rfl:=Option.some.inj h;simp
   ·split at h
    ·split at h
     ·rename_i hv;obtain rfl:=Option.some.inj h;refine ⟨by simp;exact Nat.one_le_two_pow,fun b hb=>?_⟩;obtain rfl:=List.mem_singleton.1 hb;exact hv
     ·cases h
    ·split at h
     ·cases h
     ·split at h
      ·cases h
      ·split at h
       ·cases h
       ·split at h
        ·cases h
        ·rename_i e1 _ _ e2;obtain rfl:=Option.some.inj h;have h1:=expose_ok e1;have h2:=expose_ok e2;refine ⟨by rw[List.length_append,Nat.pow_succ];omega,fun b hb=>?_⟩;rcases List.mem_append.1 hb with hb|hb
         ·exact h1.2 b hb
         ·exact h2.2 b hb
def ExpC (n:Nat) (a:Asn) (t:Int) (K:Nat):Prop:=∀ (lo hi:Nat) (v:Value) (w:World),AsnC w lo hi v a→hi≤w.heap.size→a.valid=true→
 Calls Tryz.prog 268 #[v,.int .i64 t,.int .u16 K] w fun e w'=>∃ r vs,e=.returned (.tuple #[r,.bool (exposeF n a t K).isSome])∧A2O w' w.heap.size r vs ((exposeF n a t K).getD [])∧Below w.heap.size w w'
def ExpL (n:Nat) (a:Asn) (x:Atm) (i:Nat) (t:Int) (K:Nat):Prop:=∀ (lo hi:Nat) (v:Value) (w:World),AsnC w lo hi v a→hi≤w.heap.size→
 Calls Tryz.prog 289 #[v,.int .i64 i,.int .i64 t,.int .u16 K] w fun e w'=>∃ r vs,e=.returned (.tuple #[r,.bool (listF n a x i t K).isSome])∧A2O w' w.heap.size r vs ((listF n a x i t K).getD [])∧Below w.heap.size w w'
theorem c_expose_step (n:Nat) (a:Asn) (t:Int) (K:Nat) (HL:∀ i x,findK a 1 t=none→findK a 2 t=some i→a.atoms[i]? = some x→x.kind=2→impB a ⟨true,x.a,t⟩=true→ExpL n a x i t K):ExpC (n+1) a t K:=by
 intro lo hi v w h hhi hv;have hV:=ax h;obtain ⟨A1,c1,A2,c2,rfl,-⟩:=h;have HLL:=ax HL;have hvl:=zjC hv;have HV:=ax hv;clear HL hv;(go_enter Tryz.func268,Tryz.ntmps268);have k0:Blk (w.alloc (.cells #[.slice A1 a.facts.length c1,.slice A2 a.atoms.length c2] tAs)) w.heap.size tAs #[.slice A1 a.facts.length c1,.slice A2 a.atoms.length c2]:=blks;(go_wp2_with fail);refine (c_impl_Consistent _ a _ (hV.o.V.bz bel) (by simp;omega)).mono ?_;rintro e w1 ⟨rfl,hB1⟩;rw[show (a.valid && !(cases a (caseS a 0)).isEmpty)=consB a from rfl];have hB:=bgo (w:=w) bel hB1;replace k0:=k0.nz hB1;clear hB1;have hz1:=hB.size;cases hc:consB a
 ·have E:=ax (expose_no (n:=n) (t:=t) (K:=K) HV.o hc);clear hc;(go_wp2_with fail);go_ret2;exact ⟨_,_,by rw[E.o];rfl,by rw[E.o];exact A2O.nil _ _,hB⟩
 have HC:=ax hc;clear hc;(replace qk0:=k0.z);(go_wp2_with fail);refine (c_impl_firstAtomAt _ a 1 t _ (hV.o.V.bz bel) (by omega)).mono ?_;rintro e w2 ⟨rfl,hB2⟩;(replace hB:=bgo hB hB2;replace k0:=k0.nz hB2;replace qk0:=k0.z);clear hB2;have hz2:=hB.size;cases hf:findK a 1 t
 case some i=>
  obtain ⟨x,hx,-,-,hil⟩:=find_some hf;have E:=ax (expose_cell (n:=n) (K:=K) HV.o HC.o hf hx);have EI:findI a 1 t=(i:Int):=by unfold findI;rw[hf]
  rw[EI];have hxe:a.atoms[i]=x:=by rw[List.getElem?_eq_getElem hil] at hx;exact Option.some.inj hx
  clear hf hx EI;(go_wp2_with fail);refine (c_impl_exposeCellAt _ a i t _ (hV.o.bz bel) hil (by omega)).mono ?_;rw[hxe];rintro e w3 ⟨r,rfl,oC,hB3⟩;(replace hB:=bgo hB hB3;replace k0:=k0.nz hB3);clear hB3 hxe;have OC:=ax oC;obtain ⟨F3,f3,G3,g3,rfl,-⟩:=oC.C;have hz3:=hB.size;clear qk0;cases hcv:(cellX a x i t).valid
  ·have E2:aJ (exposeF (n+1) a t K=none):=ax (by rw[E.o,hcv];rfl);clear hcv;(go_wp2_with fail);go_ret2;exact ⟨_,_,by rw[E2.o];rfl,by rw[E2.o];exact A2O.nil _ _,bel⟩
  ·have E2:aJ (exposeF (n+1) a t K=some [cellX a x i t]):=ax (by rw[E.o,hcv];rfl);clear hcv;(go_wp2_with fail);go_ret2;refine ⟨.slice (some ⟨w3.heap.size+1,0,none⟩) 1 1,[.slice F3 (cellX a x i t).facts.length f3,.slice G3 (cellX a x i t).atoms.length g3],by rw[E2.o];rfl,?_,bel⟩;rw[E2.o];refine A2O.one (Blk.newE ?_) ?_ (AsnO.bz (AsnO.bq OC.o (by omega)) bel)
   ·simp
   ·omega
 have HF1:=ax hf;have EI:findI a 1 t=0:=by unfold findI;rw[hf]
 rw[EI];clear hf EI;(go_wp2_with fail);refine (c_impl_firstAtomAt _ a 2 t _ (hV.o.V.bz bel) (by omega)).mono ?_;rintro e w3 ⟨rfl,hB3⟩;(replace hB:=bgo hB hB3;replace k0:=k0.nz hB3;replace qk0:=k0.z);clear hB3;have hz3:=hB.size;cases hg:findK a 2 t
 case none=>
  have E:=ax (expose_none (n:=n) (K:=K) HV.o HC.o HF1.o hg);clear hg;(go_wp2_with fail);go_ret2;exact ⟨_,_,by rw[E.o];rfl,by rw[E.o];exact A2O.nil _ _,hB⟩
 case some i=>
  obtain ⟨x,hx,hk2,himp,hil⟩:=find_some hg;have E:=ax (expose_list (n:=n) (K:=K) HV.o HC.o HF1.o hg hx);have EI:findI a 2 t=(i:Int):=by unfold findI;rw[hg]
  rw[EI];have HX:=ax (HLL.o i x HF1.o hg hx hk2 himp);clear hg hx EI hk2 himp;(go_wp2_with fail);refine (HX.o lo hi _ _ (hV.o.bz bel) (by omega)).mono ?_;rintro e w4 ⟨r,vs,rfl,oR,hB4⟩;have OR:=ax oR;obtain ⟨R1,r1,rfl⟩:=oR.form;clear oR;(replace hB:=bgo hB hB4);(go_wp2_with fail);go_ret2;refine ⟨_,vs,by rw[E.o];rfl,?_,bel⟩;rw[E.o];exact OR.o.bq (by omega)
end
section
open Go
section
variable {P:Program} {md:Region.Mode} {ops:Array Oper} {S:World→Prop} {Q:Exit→Act→World→Prop} {I:Array Bool→Act→World→Prop}
def dn (D:Array Bool) (j:Nat):Bool:=D.getD j false
theorem dn_ne {D:Array Bool} {i j:Nat} (h:i≠j):dn (D.setIfInBounds i true) j=dn D j:=getD_set_ne false h
theorem dn_self {D:Array Bool} {i:Nat} (h:D.getD i true=false):dn (D.setIfInBounds i true) i=true:=by
 unfold dn;rcases Nat.lt_or_ge i D.size with h'|h'
 ·simp[h']
 ·simp[Array.getElem?_eq_none h'] at h
theorem dn_un {D:Array Bool} {i:Nat} (h:D.getD i true=false):dn D i=false:=by
 unfold dn;rcases Nat.lt_or_ge i D.size with h'|h'
 ·simp[h'] at h ⊢;exact h
 ·simp[Array.getElem?_eq_none h'] at h
theorem dn_keep {D:Array Bool} {i j:Nat} {p q:Prop} (hij:i≠j) (h:dn D j=true→p) (hpq:p→q):dn (D.setIfInBounds i true) j=true→q:=fun e=>hpq (h (by rwa [dn_ne hij] at e))
def parB (md:Region.Mode) (ops:Array Oper) (H:List Nat) (Dz:Array Bool):Nat→Array Bool→Bool
 | 0,D=>decide (D=Dz)
 | n+1,D=>!(Region.ready md ops D).isEmpty&&(Region.ready md ops D).all fun i=>H.contains i&&parB md ops H Dz n (D.setIfInBounds i true)
def ParSteps (P:Program) (md:Region.Mode) (ops:Array Oper) (Q:Exit→Act→World→Prop) (S:World→Prop) (I:Array Bool→Act→World→Prop) (hs:List Nat):Prop:=
 ∀ i∈hs,∀ D a w,i∈Region.ready md ops D→I D a w→S w→wpOp P ops Q i (fun a' w'=>S w'∧I (D.setIfInBounds i true) a' w') a w
theorem ParSteps.nil:ParSteps P md ops Q S I []:=fun _ h=>by cases h
theorem ParSteps.cons {i:Nat} {o:Oper} {hs:List Nat} (ho:ops[i]? = some o)
  (h:∀ (D:Array Bool) (a:Act) (w:World),D.getD i true=false→(∀ e∈o.after.toList,Region.binds md e=true→dn D e.on=true)→I D a w→S w→
   ∀ K':Act→World→Prop,Shut (∀ a w,S w→I (D.setIfInBounds i true) a w→K' a w)→∀ G:Prop,((if Region.wanted o (yielded ops a.tmps)=true then Oper.wp P o a w K' Q else K' (a.put o.dst undef) w)→G)→G)
  (hs':ParSteps P md ops Q S I hs):ParSteps P md ops Q S I (i :: hs):=fun j hj D a w hr hI hS=>by
 rcases List.mem_cons.1 hj with rfl|hj
 ·obtain ⟨h1,o',ho',h2⟩:=mem_ready.1 hr;obtain rfl:o=o':=Option.some.inj (ho.symm.trans ho');exact wpOp_step ho (fun K' hK=>h D a w h1 (fun e he hb=>h2 e (Array.mem_toList_iff.1 he) hb) hI hS K' (fun a w hS hW=>hK a w ⟨hS,hW⟩) _ id)
 ·exact hs' j hj D a w hr hI hS
theorem wpAnyH_par (H:List Nat) (Dz:Array Bool) {fuel:Nat} {D0:Array Bool} {a0:Act} {w0:World} (n:Nat) (hH:parB md ops H Dz n D0=true) (hS:S w0) (J:Act→Array Bool→Act→World→Prop) (h0:J a0 D0 a0 w0)
  (hstep:ParSteps P md ops Q S (J a0) H) (hend:∀ a w,S w→J a0 Dz a w→wpAnyH P md ops Q S fuel Dz a w):wpAnyH P md ops Q S (fuel+n) D0 a0 w0:=by
 generalize hJ:J a0=I at *;clear hJ
 induction n generalizing D0 a0 w0 with
 | zero=>
  unfold parB at hH;obtain rfl:D0=Dz:=of_decide_eq_true hH;exact hend _ _ hS h0
 | succ n ih=>
  unfold parB at hH;simp only[Bool.and_eq_true,Bool.not_eq_true',List.all_eq_true,List.isEmpty_eq_false_iff,List.contains_iff_mem] at hH;refine wpAnyH_ready (fuel:=fuel+n) rfl hH.1 fun i hi=>?_;have h1:=hH.2 i hi;exact wpOp_mono (fun a' w' h=>⟨h.1,ih h1.2 h.1 h.2⟩) (hstep i h1.1 D0 a0 w0 hi h0 hS)
end
end
end Go.Proofs.YtjaohekkmlkinaaGreat
