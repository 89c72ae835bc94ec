/- Exposing cells: the cell of a term moved to the front (impl.exposeCellAt). Printed by genExpB.py. -/
import Derived.Test.YtgdfdmjnadnlnaaGreatMExpA
import Derived.Deep.DeepCutAuto
set_option linter.unusedSimpArgs false
set_option linter.unusedVariables false
set_option maxRecDepth 100000
set_option maxHeartbeats 25600000
namespace Go.Proofs.YtgdfdmjnadnlnaaGreat
section
open Go Go.RowKit Go.Proofs
attribute [local go_sem ↓] Go.wp_at_zero Go.wp_at_succ
theorem rowC_ {B:Nat} {w w':World} (h:Below B w w') {g:Nat} (hg:g<B) {cs:Array Value} (hc:∀ i,w.cell? ⟨g,i,none⟩=cs[i]?):∀ i,w'.cell? ⟨g,i,none⟩=cs[i]?:=fun i=>(h.cell (p:=⟨g,i,none⟩) hg).trans (hc i)
def cellX (a:Asn) (x:Atm) (i:Nat) (t:Int):Asn:=⟨a.facts++(if x.a=t then [] else [⟨true,x.a,t⟩]),⟨1,t,x.b⟩ :: withoutL a.atoms i⟩
theorem c_impl_exposeCellAt {lo hi0:Nat} (v:Value) (a:Asn) (i:Nat) (t:Int) (w:World) (h:AsnC w lo hi0 v a) (hi:i<a.atoms.length) (hfl:a.facts.length+1≤1049600) :
  Calls Tryz.prog 211 #[v,.int .i64 i,.int .i64 t] w fun e w'=>∃ r,e=.returned (.tuple #[r,.bool (cellX a a.atoms[i] i t).valid])∧AsnO w' w.heap.size r (cellX a a.atoms[i] i t)∧Below w.heap.size w w':=by
 have hV:=ax h;obtain ⟨A1,c1,A2,c2,rfl,h1,h2,-⟩:=h;have H1:=ax h1;have hl:=h2.le;have hwl:=withoutL_len hi;obtain ⟨b,o,rfl,g0,g1,g2⟩:=h2.at hi;obtain ⟨x,hx⟩:∃ x,x=a.atoms[i]:=⟨_,rfl⟩;rw[←hx] at g0 g1 g2 ⊢;have hbl:=block_lt_of_cell g0;simp only at hbl;have hii:(i:Int)<(a.atoms.length:Int):=by omega
 have HBL:aJ (([(⟨1,t,x.b⟩:Atm)]++withoutL a.atoms i).length=a.atoms.length):=ax (by simp;omega);clear hx h1 h2;(go_enter Tryz.func211,Tryz.ntmps211);have k0:Blk ((w.alloc (.cells #[.slice A1 a.facts.length c1,.slice (some ⟨b,o,none⟩) a.atoms.length c2] tAs)).alloc (.cells #[.slice none 0 0,.slice none 0 0] tAs)) w.heap.size tAs #[.slice A1 a.facts.length c1,.slice (some ⟨b,o,none⟩) a.atoms.length c2]:=blks;have k6:Blk ((w.alloc (.cells #[.slice A1 a.facts.length c1,.slice (some ⟨b,o,none⟩) a.atoms.length c2] tAs)).alloc (.cells #[.slice none 0 0,.slice none 0 0] tAs)) (w.heap.size+1) tAs #[.slice none 0 0,.slice none 0 0]:=blks;have hB0:aJ (Below w.heap.size w ((w.alloc (.cells #[.slice A1 a.facts.length c1,.slice (some ⟨b,o,none⟩) a.atoms.length c2] tAs)).alloc (.cells #[.slice none 0 0,.slice none 0 0] tAs))):=ax bel;have hs0:((w.alloc (.cells #[.slice A1 a.facts.length c1,.slice (some ⟨b,o,none⟩) a.atoms.length c2] tAs)).alloc (.cells #[.slice none 0 0,.slice none 0 0] tAs)).heap.size=w.heap.size+2:=by simp
 (go_upto_region 3 with fail);generalize ((w.alloc (.cells #[.slice A1 a.facts.length c1,.slice (some ⟨b,o,none⟩) a.atoms.length c2] tAs)).alloc (.cells #[.slice none 0 0,.slice none 0 0] tAs))=W0 at k0 k6 hB0 hs0 ⊢;have hk2:w.heap.size+2=W0.heap.size:=by omega
 have kx:Blk ((W0.alloc (.cells #[.int .i64 x.kind,.int .i64 x.a,.int .i64 x.b] tA)).alloc (.cells #[.int .i64 1,.int .i64 t,.int .i64 x.b] tA)) (w.heap.size+2) tA #[.int .i64 x.kind,.int .i64 x.a,.int .i64 x.b]:=(Blk.newE hk2).alloc _;have kf:Blk ((W0.alloc (.cells #[.int .i64 x.kind,.int .i64 x.a,.int .i64 x.b] tA)).alloc (.cells #[.int .i64 1,.int .i64 t,.int .i64 x.b] tA)) (w.heap.size+2+1) tA #[.int .i64 1,.int .i64 t,.int .i64 x.b]:=Blk.newE (by simp;omega);have hbq:Below W0.heap.size W0 ((W0.alloc (.cells #[.int .i64 x.kind,.int .i64 x.a,.int .i64 x.b] tA)).alloc (.cells #[.int .i64 1,.int .i64 t,.int .i64 x.b] tA)):=bbox (bbox (Below.refl _ _) _) _;replace k0:=k0.nz hbq;replace k6:=k6.nz hbq;have HB:=ax (bgo hB0.o hbq);have hsW:((W0.alloc (.cells #[.int .i64 x.kind,.int .i64 x.a,.int .i64 x.b] tA)).alloc (.cells #[.int .i64 1,.int .i64 t,.int .i64 x.b] tA)).heap.size=w.heap.size+4:=by simp;omega
 clear hbq hB0;generalize ((W0.alloc (.cells #[.int .i64 x.kind,.int .i64 x.a,.int .i64 x.b] tA)).alloc (.cells #[.int .i64 1,.int .i64 t,.int .i64 x.b] tA))=W at k0 k6 kx kf HB hsW ⊢;clear hk2 hs0 g0 g1 g2
 go_cut [10] (fun s10 wc=>∃ (xb:Nat) (F1:Option Addr) (e1:Nat) (G2:Option Addr) (e3:Nat),s10=.pointer (some ⟨xb,0,none⟩)∧aJ (FactsO wc w.heap.size (.slice F1 a.facts.length e1) a.facts)∧aJ (AtomsO wc w.heap.size (.slice G2 a.atoms.length e3) ([⟨1,t,x.b⟩]++withoutL a.atoms i))∧Blk wc xb tAs #[.slice F1 a.facts.length e1,.slice G2 a.atoms.length e3]∧Blk wc (w.heap.size+2) tA #[.int .i64 x.kind,.int .i64 x.a,.int .i64 x.b]∧Blk wc (w.heap.size+1) tAs #[.slice none 0 0,.slice none 0 0]∧w.heap.size+4≤xb∧aJ (Below w.heap.size w wc))
 case first=>
  have lk0:=k0.lt;have lkf:=kf.lt;(go_wp2_with fail);refine wp_region_noPanic ?_;refine wp_region_held_drew (S:=(fun w'=>(∀ i,w'.cell? ⟨w.heap.size,i,none⟩=#[.slice A1 a.facts.length c1,.slice (some ⟨b,o,none⟩) a.atoms.length c2][i]?)∧(∀ i,w'.cell? ⟨w.heap.size+2+1,i,none⟩=#[.int .i64 1,.int .i64 t,.int .i64 x.b][i]?))) (by kernel_rfl) (⟨k0.drew.cell,kf.drew.cell⟩) (fun aH=>?_);clear lk0 lkf;replace k0:=k0.drew;replace k6:=k6.drew;replace kx:=kx.drew;replace kf:=kf.drew;replace HB:=ax HB.o.drew;have hzq:W.heap.size≤W.drew.heap.size:=Nat.le_refl _;generalize W.drew=wq at k0 kx k6 kf HB hzq aH ⊢;refine tk2 0 rfl aH (h:=tk2 1 rfl aH (h:=tk2 3 rfl aH (h:=?_)));(try simp only[zz]);refine tk2 4 rfl aH (h:=tk2 5 rfl aH (h:=?_));(try simp only[zz]);refine rdd 2 9 rfl rfl (fun K hK=>?_) fun K hK=>?_
  ·skip;(try simp only[zz]);go_simp;refine (c_joinF A1 none c1 0 a.facts [] _ (H1.o.bz HB.o) (Rd.nil _ 0 0 _ _) (by simpa using Nat.le_of_succ_le hfl)).mono ?_;rintro e wq ⟨rF,rfl,oF,hBq⟩;rw[List.append_nil] at oF;obtain ⟨F1,e1,rfl,-⟩:=oF.reads;have OF:=ax (oF.lower (base':=w.heap.size) (by omega));clear oF;replace k0:=k0.nz hBq;replace kx:=kx.nz hBq;replace k6:=k6.nz hBq;replace kf:=kf.nz hBq;replace HB:=ax (bgo HB.o hBq);replace hzq:=Nat.le_trans hzq hBq.size;clear hBq;refine hK.out _ _ ⟨k0.cell,kf.cell⟩ ?_;clear aH hK K;intro aH;refine rdd 6 9 rfl rfl (fun K hK=>?_) fun K hK=>?_
   ·skip;(try simp only[zz]);go_simp;refine (c_impl_without _ a i _ (hV.o.bz HB.o) hi).mono ?_;rintro e wq ⟨rA,rfl,oA,hBq⟩;obtain ⟨G1,e2,rfl,fA⟩:=oA.reads;have FA:=ax fA;replace OF:=ax (OF.o.bz hBq);clear oA fA;replace k0:=k0.nz hBq;replace kx:=kx.nz hBq;replace k6:=k6.nz hBq;replace kf:=kf.nz hBq;replace HB:=ax (bgo HB.o hBq);replace hzq:=Nat.le_trans hzq hBq.size;clear hBq;refine hK.out _ _ ⟨k0.cell,kf.cell⟩ ?_;clear aH hK K;intro aH;refine rdd 7 9 rfl rfl (fun K hK=>?_) fun K hK=>?_
    ·skip;(try simp only[zz]);go_simp;refine (c_joinA (some ⟨w.heap.size+2+1,0,none⟩) G1 1 e2 [⟨1,t,x.b⟩] (withoutL a.atoms i) _ (AtomsV.one (f:=⟨1,t,x.b⟩) kf) FA.o (by simp<;>omega)).mono ?_;rintro e wq ⟨rB,rfl,oB,hBq⟩;obtain ⟨G2,e3,rfl,-⟩:=oB.reads;rw[HBL.o] at oB;have OB:=ax (oB.lower (base':=w.heap.size) (by omega));replace OF:=ax (OF.o.bz hBq);clear oB;replace k0:=k0.nz hBq;replace kx:=kx.nz hBq;replace k6:=k6.nz hBq;replace kf:=kf.nz hBq;replace HB:=ax (bgo HB.o hBq);replace hzq:=Nat.le_trans hzq hBq.size;clear hBq;refine hK.out _ _ ⟨k0.cell,kf.cell⟩ ?_;clear aH hK K;intro aH;refine tk2 8 rfl aH (h:=?_);refine rdc 9 rfl fun K hK=>?_;(try simp only[zz]);go_simp;refine hK.out _ _ (⟨rowC_ (bbox (Below.refl _ _) _) k0.lt k0.cell,rowC_ (bbox (Below.refl _ _) _) kf.lt kf.cell⟩) ?_;clear aH hK K;intro aH;(try simp only[zz]);have hBq:Below wq.heap.size wq (wq.alloc (.cells #[.slice none 0 0,.slice none 0 0] tAs)):=bbox (Below.refl _ _) _;have kBox:Blk (wq.alloc (.cells #[.slice none 0 0,.slice none 0 0] tAs)) wq.heap.size tAs #[.slice none 0 0,.slice none 0 0]:=Blk.new _ _ _;obtain ⟨xb,hxb⟩:∃ x,x=wq.heap.size:=⟨_,rfl⟩;have hxb2:W.heap.size≤xb:=by omega
     replace k0:=k0.nz hBq;replace kx:=kx.nz hBq;replace k6:=k6.nz hBq;replace kf:=kf.nz hBq;replace HB:=ax (bgo HB.o hBq);replace hzq:=Nat.le_trans hzq hBq.size;(try replace OF:=ax (OF.o.bz hBq));(try replace FA:=ax (FA.o.bz hBq));(try replace OB:=ax (OB.o.bz hBq));rw[←hxb] at kBox ⊢;clear hBq hxb;generalize wq.alloc (.cells #[.slice none 0 0,.slice none 0 0] tAs)=wq at *;have hlB:=kBox.lt;have qb:=kBox.cell;have rb:=kBox.frozen;refine rdc 10 rfl fun K hK=>?_;(try simp only[zz]);go_simp;refine hK.out _ _ (⟨((k0.far (p:=⟨xb,0,none⟩) (by simp only;omega) _).far (p:=⟨xb,1,none⟩) (by simp only;omega) _).cell,((kf.far (p:=⟨xb,0,none⟩) (kf.ne_ kBox (by decide)) _).far (p:=⟨xb,1,none⟩) (kf.ne_ kBox (by decide)) _).cell⟩) ?_;clear aH hK K;intro aH;(try simp only[zz]);refine dn1 ?_;(go_wp2_with fail);go_meet
     case rel=>
      refine ⟨xb,F1,e1,G2,e3,rfl,ax ((OF.o.setT kBox (by decide) 0 _).setT (kBox.set_ 0 _) (by decide) 1 _),ax ((OB.o.setT kBox (by decide) 0 _).setT (kBox.set_ 0 _) (by decide) 1 _),?_,(kx.far (p:=⟨xb,0,none⟩) (kx.ne_ kBox (by decide)) _).far (p:=⟨xb,1,none⟩) (kx.ne_ kBox (by decide)) _,(k6.far (p:=⟨xb,0,none⟩) (by simp only;omega) _).far (p:=⟨xb,1,none⟩) (by simp only;omega) _,by omega,ax ((HB.o.setCell (p:=⟨xb,0,none⟩) (by simp only;omega) _).setCell (p:=⟨xb,1,none⟩) (by simp only;omega) _)⟩;have:=(kBox.set_ 0 (.slice F1 a.facts.length e1)).set_ 1 (.slice G2 a.atoms.length e3);simpa using this
    ·skip;(try simp only[zz]);go_simp;refine hK.out _ _ ⟨rowC_ (bbox (Below.refl _ _) _) k0.lt k0.cell,rowC_ (bbox (Below.refl _ _) _) kf.lt kf.cell⟩ ?_;clear aH hK K;intro aH;have hBq:Below wq.heap.size wq (wq.alloc (.cells #[.slice none 0 0,.slice none 0 0] tAs)):=bbox (Below.refl _ _) _;have kBox:Blk (wq.alloc (.cells #[.slice none 0 0,.slice none 0 0] tAs)) wq.heap.size tAs #[.slice none 0 0,.slice none 0 0]:=Blk.new _ _ _;obtain ⟨xb,hxb⟩:∃ x,x=wq.heap.size:=⟨_,rfl⟩;have hxb2:W.heap.size≤xb:=by omega
     replace k0:=k0.nz hBq;replace kx:=kx.nz hBq;replace k6:=k6.nz hBq;replace kf:=kf.nz hBq;replace HB:=ax (bgo HB.o hBq);replace hzq:=Nat.le_trans hzq hBq.size;(try replace OF:=ax (OF.o.bz hBq));(try replace FA:=ax (FA.o.bz hBq));(try replace OB:=ax (OB.o.bz hBq));rw[←hxb] at kBox ⊢;clear hBq hxb;generalize wq.alloc (.cells #[.slice none 0 0,.slice none 0 0] tAs)=wq at *;refine rdc 7 rfl fun K hK=>?_;(try simp only[zz]);(go_simp;refine (c_joinA (some ⟨w.heap.size+2+1,0,none⟩) G1 1 e2 [⟨1,t,x.b⟩] (withoutL a.atoms i) _ (AtomsV.one (f:=⟨1,t,x.b⟩) kf) FA.o (by simp<;>omega)).mono ?_;rintro e wq ⟨rB,rfl,oB,hBq⟩;obtain ⟨G2,e3,rfl,-⟩:=oB.reads;rw[HBL.o] at oB;have OB:=ax (oB.lower (base':=w.heap.size) (by omega));replace OF:=ax (OF.o.bz hBq);clear oB;replace k0:=k0.nz hBq;replace kx:=kx.nz hBq;replace k6:=k6.nz hBq;replace kf:=kf.nz hBq;replace HB:=ax (bgo HB.o hBq);replace hzq:=Nat.le_trans hzq hBq.size;have kBox:=kBox.nz hBq);refine hK.out _ _ (⟨k0.cell,kf.cell⟩) ?_;clear aH hK K;intro aH;(try simp only[zz]);clear hBq;refine tk2 8 rfl aH (h:=?_);(try simp only[zz]);have hlB:=kBox.lt;have qb:=kBox.cell;have rb:=kBox.frozen;refine rdc 10 rfl fun K hK=>?_;(try simp only[zz]);go_simp;refine hK.out _ _ (⟨((k0.far (p:=⟨xb,0,none⟩) (by simp only;omega) _).far (p:=⟨xb,1,none⟩) (by simp only;omega) _).cell,((kf.far (p:=⟨xb,0,none⟩) (kf.ne_ kBox (by decide)) _).far (p:=⟨xb,1,none⟩) (kf.ne_ kBox (by decide)) _).cell⟩) ?_;clear aH hK K;intro aH;(try simp only[zz]);refine dn1 ?_;(go_wp2_with fail);go_meet
     case rel=>
      refine ⟨xb,F1,e1,G2,e3,rfl,ax ((OF.o.setT kBox (by decide) 0 _).setT (kBox.set_ 0 _) (by decide) 1 _),ax ((OB.o.setT kBox (by decide) 0 _).setT (kBox.set_ 0 _) (by decide) 1 _),?_,(kx.far (p:=⟨xb,0,none⟩) (kx.ne_ kBox (by decide)) _).far (p:=⟨xb,1,none⟩) (kx.ne_ kBox (by decide)) _,(k6.far (p:=⟨xb,0,none⟩) (by simp only;omega) _).far (p:=⟨xb,1,none⟩) (by simp only;omega) _,by omega,ax ((HB.o.setCell (p:=⟨xb,0,none⟩) (by simp only;omega) _).setCell (p:=⟨xb,1,none⟩) (by simp only;omega) _)⟩;have:=(kBox.set_ 0 (.slice F1 a.facts.length e1)).set_ 1 (.slice G2 a.atoms.length e3);simpa using this
   ·skip;(try simp only[zz]);go_simp;refine hK.out _ _ ⟨rowC_ (bbox (Below.refl _ _) _) k0.lt k0.cell,rowC_ (bbox (Below.refl _ _) _) kf.lt kf.cell⟩ ?_;clear aH hK K;intro aH;have hBq:Below wq.heap.size wq (wq.alloc (.cells #[.slice none 0 0,.slice none 0 0] tAs)):=bbox (Below.refl _ _) _;have kBox:Blk (wq.alloc (.cells #[.slice none 0 0,.slice none 0 0] tAs)) wq.heap.size tAs #[.slice none 0 0,.slice none 0 0]:=Blk.new _ _ _;obtain ⟨xb,hxb⟩:∃ x,x=wq.heap.size:=⟨_,rfl⟩;have hxb2:W.heap.size≤xb:=by omega
    replace k0:=k0.nz hBq;replace kx:=kx.nz hBq;replace k6:=k6.nz hBq;replace kf:=kf.nz hBq;replace HB:=ax (bgo HB.o hBq);replace hzq:=Nat.le_trans hzq hBq.size;(try replace OF:=ax (OF.o.bz hBq));(try replace FA:=ax (FA.o.bz hBq));(try replace OB:=ax (OB.o.bz hBq));rw[←hxb] at kBox ⊢;clear hBq hxb;generalize wq.alloc (.cells #[.slice none 0 0,.slice none 0 0] tAs)=wq at *;refine rdc 6 rfl fun K hK=>?_;(try simp only[zz]);(go_simp;refine (c_impl_without _ a i _ (hV.o.bz HB.o) hi).mono ?_;rintro e wq ⟨rA,rfl,oA,hBq⟩;obtain ⟨G1,e2,rfl,fA⟩:=oA.reads;have FA:=ax fA;replace OF:=ax (OF.o.bz hBq);clear oA fA;replace k0:=k0.nz hBq;replace kx:=kx.nz hBq;replace k6:=k6.nz hBq;replace kf:=kf.nz hBq;replace HB:=ax (bgo HB.o hBq);replace hzq:=Nat.le_trans hzq hBq.size;have kBox:=kBox.nz hBq);refine hK.out _ _ (⟨k0.cell,kf.cell⟩) ?_;clear aH hK K;intro aH;(try simp only[zz]);clear hBq;refine rdc 7 rfl fun K hK=>?_;(try simp only[zz]);(go_simp;refine (c_joinA (some ⟨w.heap.size+2+1,0,none⟩) G1 1 e2 [⟨1,t,x.b⟩] (withoutL a.atoms i) _ (AtomsV.one (f:=⟨1,t,x.b⟩) kf) FA.o (by simp<;>omega)).mono ?_;rintro e wq ⟨rB,rfl,oB,hBq⟩;obtain ⟨G2,e3,rfl,-⟩:=oB.reads;rw[HBL.o] at oB;have OB:=ax (oB.lower (base':=w.heap.size) (by omega));replace OF:=ax (OF.o.bz hBq);clear oB;replace k0:=k0.nz hBq;replace kx:=kx.nz hBq;replace k6:=k6.nz hBq;replace kf:=kf.nz hBq;replace HB:=ax (bgo HB.o hBq);replace hzq:=Nat.le_trans hzq hBq.size;have kBox:=kBox.nz hBq);refine hK.out _ _ (⟨k0.cell,kf.cell⟩) ?_;clear aH hK K;intro aH;(try simp only[zz]);clear hBq;refine tk2 8 rfl aH (h:=?_);(try simp only[zz]);have hlB:=kBox.lt;have qb:=kBox.cell;have rb:=kBox.frozen;refine rdc 10 rfl fun K hK=>?_;(try simp only[zz]);go_simp;refine hK.out _ _ (⟨((k0.far (p:=⟨xb,0,none⟩) (by simp only;omega) _).far (p:=⟨xb,1,none⟩) (by simp only;omega) _).cell,((kf.far (p:=⟨xb,0,none⟩) (kf.ne_ kBox (by decide)) _).far (p:=⟨xb,1,none⟩) (kf.ne_ kBox (by decide)) _).cell⟩) ?_;clear aH hK K;intro aH;(try simp only[zz]);refine dn1 ?_;(go_wp2_with fail);go_meet
    case rel=>
     refine ⟨xb,F1,e1,G2,e3,rfl,ax ((OF.o.setT kBox (by decide) 0 _).setT (kBox.set_ 0 _) (by decide) 1 _),ax ((OB.o.setT kBox (by decide) 0 _).setT (kBox.set_ 0 _) (by decide) 1 _),?_,(kx.far (p:=⟨xb,0,none⟩) (kx.ne_ kBox (by decide)) _).far (p:=⟨xb,1,none⟩) (kx.ne_ kBox (by decide)) _,(k6.far (p:=⟨xb,0,none⟩) (by simp only;omega) _).far (p:=⟨xb,1,none⟩) (by simp only;omega) _,by omega,ax ((HB.o.setCell (p:=⟨xb,0,none⟩) (by simp only;omega) _).setCell (p:=⟨xb,1,none⟩) (by simp only;omega) _)⟩;have:=(kBox.set_ 0 (.slice F1 a.facts.length e1)).set_ 1 (.slice G2 a.atoms.length e3);simpa using this
  ·skip;(try simp only[zz]);go_simp;refine hK.out _ _ ⟨rowC_ (bbox (Below.refl _ _) _) k0.lt k0.cell,rowC_ (bbox (Below.refl _ _) _) kf.lt kf.cell⟩ ?_;clear aH hK K;intro aH;have hBq:Below wq.heap.size wq (wq.alloc (.cells #[.slice none 0 0,.slice none 0 0] tAs)):=bbox (Below.refl _ _) _;have kBox:Blk (wq.alloc (.cells #[.slice none 0 0,.slice none 0 0] tAs)) wq.heap.size tAs #[.slice none 0 0,.slice none 0 0]:=Blk.new _ _ _;obtain ⟨xb,hxb⟩:∃ x,x=wq.heap.size:=⟨_,rfl⟩;have hxb2:W.heap.size≤xb:=by omega
   replace k0:=k0.nz hBq;replace kx:=kx.nz hBq;replace k6:=k6.nz hBq;replace kf:=kf.nz hBq;replace HB:=ax (bgo HB.o hBq);replace hzq:=Nat.le_trans hzq hBq.size;(try replace OF:=ax (OF.o.bz hBq));(try replace FA:=ax (FA.o.bz hBq));(try replace OB:=ax (OB.o.bz hBq));rw[←hxb] at kBox ⊢;clear hBq hxb;generalize wq.alloc (.cells #[.slice none 0 0,.slice none 0 0] tAs)=wq at *;refine rdc 2 rfl fun K hK=>?_;(try simp only[zz]);(go_simp;refine (c_joinF A1 none c1 0 a.facts [] _ (H1.o.bz HB.o) (Rd.nil _ 0 0 _ _) (by simpa using Nat.le_of_succ_le hfl)).mono ?_;rintro e wq ⟨rF,rfl,oF,hBq⟩;rw[List.append_nil] at oF;obtain ⟨F1,e1,rfl,-⟩:=oF.reads;have OF:=ax (oF.lower (base':=w.heap.size) (by omega));clear oF;replace k0:=k0.nz hBq;replace kx:=kx.nz hBq;replace k6:=k6.nz hBq;replace kf:=kf.nz hBq;replace HB:=ax (bgo HB.o hBq);replace hzq:=Nat.le_trans hzq hBq.size;have kBox:=kBox.nz hBq);refine hK.out _ _ (⟨k0.cell,kf.cell⟩) ?_;clear aH hK K;intro aH;(try simp only[zz]);clear hBq;refine rdc 6 rfl fun K hK=>?_;(try simp only[zz]);(go_simp;refine (c_impl_without _ a i _ (hV.o.bz HB.o) hi).mono ?_;rintro e wq ⟨rA,rfl,oA,hBq⟩;obtain ⟨G1,e2,rfl,fA⟩:=oA.reads;have FA:=ax fA;replace OF:=ax (OF.o.bz hBq);clear oA fA;replace k0:=k0.nz hBq;replace kx:=kx.nz hBq;replace k6:=k6.nz hBq;replace kf:=kf.nz hBq;replace HB:=ax (bgo HB.o hBq);replace hzq:=Nat.le_trans hzq hBq.size;have kBox:=kBox.nz hBq);refine hK.out _ _ (⟨k0.cell,kf.cell⟩) ?_;clear aH hK K;intro aH;(try simp only[zz]);clear hBq;refine rdc 7 rfl fun K hK=>?_;(try simp only[zz]);(go_simp;refine (c_joinA (some ⟨w.heap.size+2+1,0,none⟩) G1 1 e2 [⟨1,t,x.b⟩] (withoutL a.atoms i) _ (AtomsV.one (f:=⟨1,t,x.b⟩) kf) FA.o (by simp<;>omega)).mono ?_;rintro e wq ⟨rB,rfl,oB,hBq⟩;obtain ⟨G2,e3,rfl,-⟩:=oB.reads;rw[HBL.o] at oB;have OB:=ax (oB.lower (base':=w.heap.size) (by omega));replace OF:=ax (OF.o.bz hBq);clear oB;replace k0:=k0.nz hBq;replace kx:=kx.nz hBq;replace k6:=k6.nz hBq;replace kf:=kf.nz hBq;replace HB:=ax (bgo HB.o hBq);replace hzq:=Nat.le_trans hzq hBq.size;have kBox:=kBox.nz hBq);refine hK.out _ _ (⟨k0.cell,kf.cell⟩) ?_;clear aH hK K;intro aH;(try simp only[zz]);clear hBq;refine tk2 8 rfl aH (h:=?_);(try simp only[zz]);have hlB:=kBox.lt;have qb:=kBox.cell;have rb:=kBox.frozen;refine rdc 10 rfl fun K hK=>?_;(try simp only[zz]);go_simp;refine hK.out _ _ (⟨((k0.far (p:=⟨xb,0,none⟩) (by simp only;omega) _).far (p:=⟨xb,1,none⟩) (by simp only;omega) _).cell,((kf.far (p:=⟨xb,0,none⟩) (kf.ne_ kBox (by decide)) _).far (p:=⟨xb,1,none⟩) (kf.ne_ kBox (by decide)) _).cell⟩) ?_;clear aH hK K;intro aH;(try simp only[zz]);refine dn1 ?_;(go_wp2_with fail);go_meet
   case rel=>
    refine ⟨xb,F1,e1,G2,e3,rfl,ax ((OF.o.setT kBox (by decide) 0 _).setT (kBox.set_ 0 _) (by decide) 1 _),ax ((OB.o.setT kBox (by decide) 0 _).setT (kBox.set_ 0 _) (by decide) 1 _),?_,(kx.far (p:=⟨xb,0,none⟩) (kx.ne_ kBox (by decide)) _).far (p:=⟨xb,1,none⟩) (kx.ne_ kBox (by decide)) _,(k6.far (p:=⟨xb,0,none⟩) (by simp only;omega) _).far (p:=⟨xb,1,none⟩) (by simp only;omega) _,by omega,ax ((HB.o.setCell (p:=⟨xb,0,none⟩) (by simp only;omega) _).setCell (p:=⟨xb,1,none⟩) (by simp only;omega) _)⟩;have:=(kBox.set_ 0 (.slice F1 a.facts.length e1)).set_ 1 (.slice G2 a.atoms.length e3);simpa using this
 case rest=>
  obtain ⟨xb,F1,e1,G2,e3,rfl,OF,OB,kb,kx,k6,hxb,HB⟩:=hcut;have hl0:=kb.lt;by_cases hxt:x.a=t
  ·have HXE:aJ (cellX a x i t=⟨a.facts,[⟨1,t,x.b⟩]++withoutL a.atoms i⟩):=ax (by unfold cellX;rw[if_pos hxt,List.append_nil];rfl)
   have HVX:aJ (AsnV wc 0 wc.heap.size (.agg #[.slice F1 a.facts.length e1,.slice G2 a.atoms.length e3]) (cellX a x i t)):=ax (by
    rw[HXE.o];refine ⟨F1,e1,G2,e3,?_,OF.o.readsI.2.mono (Nat.zero_le _) (Nat.le_refl _),OB.o.readsI.2.mono (Nat.zero_le _) (Nat.le_refl _)⟩
    rw[HBL.o])
   have hb:(x.a != t)=false:=by simpa using hxt
   clear hxt;(replace qkb:=kb.z;replace qkx:=kx.z;replace qk6:=k6.z);(go_upto_region 6 with fail);clear qkx;refine wp_region_noPanic ?_;refine wp_region_held_drew (S:=(fun w'=>∀ i,w'.cell? ⟨xb,i,none⟩=#[.slice F1 a.facts.length e1,.slice G2 a.atoms.length e3][i]?)) (by kernel_rfl) (kb.drew.cell) (fun aH=>?_);refine tk2 0 rfl aH (h:=tk2 1 rfl aH (h:=?_));refine rdc 2 rfl fun K hK=>?_;(try simp only[zz]);(go_simp;refine (c_impl_AssertionValid _ (cellX a x i t) _ (HVX.o.bz (Below.refl _ _).drew)).mono ?_;rintro e w8 ⟨rfl,hB8⟩;replace hB8:Below wc.heap.size wc w8:=(Below.refl _ _).drew.trans hB8;have kb8:=kb.nz hB8;have k68:=k6.nz hB8;have OF8:=ax (OF.o.bz hB8);have OB8:=ax (OB.o.bz hB8);have HB8:=ax (bgo HB.o hB8);clear hB8);refine hK.out _ _ (kb8.cell) ?_;clear aH hK K;intro aH;(try simp only[zz]);have q68:=k68.cell;have r68:=k68.frozen;have l68:=k68.lt;refine rdc 3 rfl fun K hK=>?_;(try simp only[zz]);go_simp;refine hK.out _ _ (((kb8.far (p:=⟨w.heap.size+1,0,none⟩) (by simp only;omega) _).far (p:=⟨w.heap.size+1,1,none⟩) (by simp only;omega) _).cell) ?_;clear aH hK K;intro aH;refine rdc 4 rfl fun K hK=>?_;(try simp only[zz]);go_simp;refine hK.out _ _ (((kb8.far (p:=⟨w.heap.size+1,0,none⟩) (by simp only;omega) _).far (p:=⟨w.heap.size+1,1,none⟩) (by simp only;omega) _).cell) ?_;clear aH hK K;intro aH;(try simp only[zz]);refine dn1 ?_;(go_wp2_with fail);have z6:=((k68.set_ 0 (.slice F1 a.facts.length e1)).set_ 1 (.slice G2 a.atoms.length e3)).cell;refine bodyPost_ret (v:=.tuple #[.agg #[.slice F1 a.facts.length e1,.slice G2 a.atoms.length e3],.bool (cellX a x i t).valid]) (by simp[results,Tryz.results211,go_sem,z6]) rfl ⟨_,rfl,⟨_,_,rfl,?_,?_⟩,?_⟩
   ·rw[HXE.o];exact (OF8.o.setT k68 (by decide) 0 _).setT (k68.set_ 0 _) (by decide) 1 _
   ·rw[HXE.o];exact (OB8.o.setT k68 (by decide) 0 _).setT (k68.set_ 0 _) (by decide) 1 _
   ·exact (HB8.o.setCell (p:=⟨w.heap.size+1,0,none⟩) (by simp only;omega) _).setCell (p:=⟨w.heap.size+1,1,none⟩) (by simp only;omega) _
  ·have HXE:aJ (cellX a x i t=⟨a.facts++[⟨true,x.a,t⟩],[⟨1,t,x.b⟩]++withoutL a.atoms i⟩):=ax (by unfold cellX;rw[if_neg hxt];rfl);have hb:(x.a != t)=true:=by simpa using hxt
   clear hxt;have hzw:w.heap.size≤wc.heap.size:=HB.o.size;(replace qkb:=kb.z;replace qkx:=kx.z;replace qk6:=k6.z);(go_wp2_with (at_builtin;refine appFL (ys:=[⟨true,x.a,t⟩]) (base:=w.heap.size) rfl _ _ rfl rfl (OF.o.bz bel) rfl (FactsV.one (f:=⟨true,x.a,t⟩) (Blk.new wc tF _)) (by simpa using hfl) (by simp;omega) ?_;intro A6 c6 w6 o6 hg6 hB6;have kO:=OF.o.bz (w':=wc.alloc (.cells #[.bool true,.int .i64 x.a,.int .i64 t] tF)) bel;have kb6:=Blk.grownO (hg:=hg6) (kb.alloc _) kO.1 (by decide);have k66:=Blk.grownO (hg:=hg6) (k6.alloc _) kO.1 (by decide);have OB6:aJ (AtomsO w6 w.heap.size (.slice G2 a.atoms.length e3) ([⟨1,t,x.b⟩]++withoutL a.atoms i)):=ax ⟨own_grownO (OB.o.bz (w':=wc.alloc (.cells #[.bool true,.int .i64 x.a,.int .i64 t] tF)) bel).1 kO.1 hg6 (by decide),OB.o.2⟩;have HB6:aJ (Below w.heap.size w w6):=ax ((HB.o.alloc hzw _).trans hB6);have OF6:=ax o6;clear hB6 hg6 o6 kO;have qb6:=kb6.cell;have rb6:=kb6.frozen;have lb6:=kb6.lt))
   have kb7:Blk (w6.setCell ⟨xb,0,none⟩ (.slice A6 (a.facts.length+1) c6)) xb tAs #[.slice A6 (a.facts.length+1) c6,.slice G2 a.atoms.length e3]:=by
    have:=kb6.set_ 0 (.slice A6 (a.facts.length+1) c6);simpa using this
   have k67:=k66.far (p:=⟨xb,0,none⟩) (by simp only;omega) (.slice A6 (a.facts.length+1) c6)
   have OF7:aJ (FactsO (w6.setCell ⟨xb,0,none⟩ (.slice A6 (a.facts.length+1) c6)) w.heap.size (.slice A6 (a.facts.length+1) c6) (a.facts++[⟨true,x.a,t⟩])):=ax (by
    have:=OF6.o.setT kb6 (by decide) 0 (.slice A6 (a.facts.length+1) c6)
    simpa using this)
   have OB7:=ax (OB6.o.setT kb6 (by decide) 0 (.slice A6 (a.facts.length+1) c6));have HB7:=ax (HB6.o.setCell (p:=⟨xb,0,none⟩) (by simp only;omega) (.slice A6 (a.facts.length+1) c6));clear qkb qkx qk6 qb6 rb6 lb6 kb kx k6 OF OB HB kb6 k66 OF6 OB6 HB6;generalize (w6.setCell ⟨xb,0,none⟩ (.slice A6 (a.facts.length+1) c6))=W7 at kb7 k67 OF7 OB7 HB7 ⊢;have kb:=kb7;have k6:=k67;have OF:=OF7;have OB:=OB7;have HB:=HB7;clear kb7 k67 OF7 OB7 HB7
   have HVX:aJ (AsnV W7 0 W7.heap.size (.agg #[.slice A6 (a.facts.length+1) c6,.slice G2 a.atoms.length e3]) (cellX a x i t)):=ax (by
    rw[HXE.o];refine ⟨A6,c6,G2,e3,?_,by simpa using OF.o.readsI.2.mono (Nat.zero_le _) (Nat.le_refl _),OB.o.readsI.2.mono (Nat.zero_le _) (Nat.le_refl _)⟩
    rw[HBL.o];simp)
   refine wp_region_noPanic ?_;refine wp_region_held_drew (S:=(fun w'=>∀ i,w'.cell? ⟨xb,i,none⟩=#[.slice A6 (a.facts.length+1) c6,.slice G2 a.atoms.length e3][i]?)) (by kernel_rfl) (kb.drew.cell) (fun aH=>?_);refine tk2 0 rfl aH (h:=tk2 1 rfl aH (h:=?_));refine rdc 2 rfl fun K hK=>?_;(try simp only[zz]);(go_simp;refine (c_impl_AssertionValid _ (cellX a x i t) _ (HVX.o.bz (Below.refl _ _).drew)).mono ?_;rintro e w8 ⟨rfl,hB8⟩;replace hB8:Below W7.heap.size W7 w8:=(Below.refl _ _).drew.trans hB8;have kb8:=kb.nz hB8;have k68:=k6.nz hB8;have OF8:=ax (OF.o.bz hB8);have OB8:=ax (OB.o.bz hB8);have HB8:=ax (bgo HB.o hB8);clear hB8);refine hK.out _ _ (kb8.cell) ?_;clear aH hK K;intro aH;(try simp only[zz]);have q68:=k68.cell;have r68:=k68.frozen;have l68:=k68.lt;refine rdc 3 rfl fun K hK=>?_;(try simp only[zz]);go_simp;refine hK.out _ _ (((kb8.far (p:=⟨w.heap.size+1,0,none⟩) (by simp only;omega) _).far (p:=⟨w.heap.size+1,1,none⟩) (by simp only;omega) _).cell) ?_;clear aH hK K;intro aH;refine rdc 4 rfl fun K hK=>?_;(try simp only[zz]);go_simp;refine hK.out _ _ (((kb8.far (p:=⟨w.heap.size+1,0,none⟩) (by simp only;omega) _).far (p:=⟨w.heap.size+1,1,none⟩) (by simp only;omega) _).cell) ?_;clear aH hK K;intro aH;(try simp only[zz]);refine dn1 ?_;(go_wp2_with fail);have z6:=((k68.set_ 0 (.slice A6 (a.facts.length+1) c6)).set_ 1 (.slice G2 a.atoms.length e3)).cell;refine bodyPost_ret (v:=.tuple #[.agg #[.slice A6 (a.facts.length+1) c6,.slice G2 a.atoms.length e3],.bool (cellX a x i t).valid]) (by simp[results,Tryz.results211,go_sem,z6]) rfl ⟨_,rfl,⟨_,_,rfl,?_,?_⟩,?_⟩
   ·rw[HXE.o];exact (OF8.o.setT k68 (by decide) 0 _).setT (k68.set_ 0 _) (by decide) 1 _
   ·rw[HXE.o];exact (OB8.o.setT k68 (by decide) 0 _).setT (k68.set_ 0 _) (by decide) 1 _
   ·exact (HB8.o.setCell (p:=⟨w.heap.size+1,0,none⟩) (by simp only;omega) _).setCell (p:=⟨w.heap.size+1,1,none⟩) (by simp only;omega) _
end
section
open Go Go.RowKit Go.Proofs
theorem imp_iff {a:Asn} {f:Fct}:impB a f=true↔a.valid=true∧f.valid=true∧∀ M,Sat M a→decide (M f.a=M f.b)=f.eq:=by
 unfold impB;rw[Bool.and_eq_true,Bool.and_eq_true,and_assoc,List.all_eq_true];constructor
 ·rintro ⟨h1,h2,h3⟩;refine ⟨h1,h2,fun M hM=>?_⟩;have hfo:=Fct.valid_ok h2;have ha:isTermB f.a=true:=by simp[isTermB];omega
  have hb:isTermB f.b=true:=by simp[isTermB];omega
  have hbit:∀ j:Nat,(factS f).testBit j=(decide (f.a=(j:Int)) || decide (f.b=(j:Int))):=fun j=>by
   rw[tins_bit,tins_bit,Nat.zero_testBit,ha,hb];simp
  have b1:(caseS a (factS f)).testBit f.a.toNat=true:=by rw[caseS_bit,hbit,Int.toNat_of_nonneg hfo.1.1];simp
  have b2:(caseS a (factS f)).testBit f.b.toNat=true:=by rw[caseS_bit,hbit,Int.toNat_of_nonneg hfo.2.1];simp
  have hc:=sat_case h1 (caseS_zero a (factS f)) (caseS_terms h1 (factS f)) hM;have h4:=h3 _ hc;have h5:=cl_canon_eq (M:=M) (S:=caseS a (factS f)) ⟨hfo.1,b1⟩ ⟨hfo.2,b2⟩;simp only[Fct.fits,beq_iff_eq] at h4;rw[←h4,decide_eq_decide];exact h5.symm
 ·rintro ⟨h1,h2,h3⟩;refine ⟨h1,h2,fun c hc=>?_⟩;have:=h3 _ (case_sat h1 (caseS_zero a (factS f)) hc);simp only[Fct.fits,beq_iff_eq];exact this
def emptyX (a:Asn) (x:Atm) (i:Nat):Asn:=⟨a.facts++[⟨true,x.a,x.b⟩],withoutL a.atoms i⟩
def fullX (a:Asn) (x:Atm) (i:Nat) (m:Int):Asn:=⟨a.facts++[⟨false,x.a,x.b⟩],([⟨1,x.a,m⟩]++withoutL a.atoms i)++[⟨2,m,x.b⟩]⟩
theorem without_perm {xs:List Atm} {i:Nat} {x:Atm} (h:xs[i]? = some x):xs.Perm (x :: withoutL xs i):=by
 obtain ⟨hi,rfl⟩:=List.getElem?_eq_some_iff.1 h;have e:xs=xs.take i++xs[i] :: xs.drop (i+1):=by rw[←List.drop_eq_getElem_cons hi,List.take_append_drop]
 conv=>lhs;rw[e]
 exact List.perm_middle
theorem full_sat {M:Int→Int} {a:Asn} {x:Atm} {i:Nat} {m:Int} (hx:a.atoms[i]? = some x) (hk:x.kind=2) (h:Sat M (fullX a x i m)):Sat M a:=by
 have hp:=without_perm hx;have hne:decide (M x.a=M x.b)=false:=h.facts ⟨false,x.a,x.b⟩ (by simp[fullX]);have hfx:fillM M x=true:=by simp[fillM,hne]
 have hf1:fillM M ⟨1,x.a,m⟩=true:=by simp[fillM]
 refine ⟨fun f hf=>h.facts f (by simp[fullX,hf]),fun y hy hfy=>?_,?_⟩
 ·rcases List.mem_cons.1 (hp.mem_iff.1 hy) with rfl|hy
  ·exact h.nil ⟨1,y.a,m⟩ (by simp[fullX]) hf1
  ·exact h.nil y (by simp[fullX,hy]) hfy
 ·have h2:=h.apart;refine ((hp.filter (fillM M)).map fun x=>M x.a).nodup_iff.2 ?_;rw[List.filter_cons,if_pos hfx];simp only[fullX,List.filter_append,List.map_append,List.append_assoc,List.singleton_append,List.filter_cons,List.cons_append,if_pos hf1,List.map_cons,List.filter_nil,List.nil_append] at h2;refine List.Nodup.sublist ?_ h2;simp only[List.map_cons];exact List.Sublist.cons_cons _ (List.sublist_append_left _ _)
theorem full_imp {a:Asn} {x:Atm} {i:Nat} {m t:Int} (hx:a.atoms[i]? = some x) (hk:x.kind=2) (hf:(fullX a x i m).valid=true) (h:impB a ⟨true,x.a,t⟩=true):impB (fullX a x i m) ⟨true,x.a,t⟩=true:=by
 rw[imp_iff] at h ⊢;exact ⟨hf,h.2.1,fun M hM=>h.2.2 M (full_sat hx hk hM)⟩
theorem find_some {a:Asn} {kind t:Int} {i:Nat} (h:findK a kind t=some i):∃ x,a.atoms[i]? = some x∧x.kind=kind∧impB a ⟨true,x.a,t⟩=true∧i<a.atoms.length:=by
 have h1:=List.find?_some h;unfold findP at h1
 cases e:a.atoms[i]? with
 | none=>rw[e] at h1;cases h1
 | some x=>
  rw[e] at h1;simp only[Bool.and_eq_true,decide_eq_true_eq] at h1;exact ⟨x,rfl,h1.1,h1.2,(List.getElem?_eq_some_iff.1 e).1⟩
theorem full_find {a:Asn} {x:Atm} {i:Nat} {m t:Int} (hx:a.atoms[i]? = some x) (hk:x.kind=2) (hf:(fullX a x i m).valid=true) (h:impB a ⟨true,x.a,t⟩=true):findK (fullX a x i m) 1 t=some 0:=by
 refine findK_yes (by simp[fullX]) (fun j hj=>by omega) ?_;unfold findP;have:(fullX a x i m).atoms[0]? = some ⟨1,x.a,m⟩:=by simp[fullX]
 rw[this];simp[full_imp hx hk hf h]
def exposeF:Nat→Asn→Int→Nat→Option (List Asn)
 | 0,_,_,_=>none
 | n+1,a,t,K=>
  if a.valid=false then none
  else if consB a=false then some []
  else match findK a 1 t with
   | some i=>if (cellX a (a.atoms[i]?.getD default) i t).valid then some [cellX a (a.atoms[i]?.getD default) i t] else none
   | none=>match findK a 2 t with
    | none=>none
    | some i=>match newT (tset (termsL a)|||tins K t) with
     | none=>none
     | some m=>match exposeF n (emptyX a (a.atoms[i]?.getD default) i) t K with
      | none=>none
      | some l1=>match exposeF n (fullX a (a.atoms[i]?.getD default) i (m:Int)) t K with
       | none=>none
       | some l2=>some (l1++l2)
end
section
open Go Go.RowKit Go.Proofs
attribute [local go_sem ↓] Go.wp_at_zero Go.wp_at_succ
def listF (n:Nat) (a:Asn) (x:Atm) (i:Nat) (t:Int) (K:Nat):Option (List Asn):=
 match newT (tset (termsL a)|||tins K t) with
 | none=>none
 | some m=>match exposeF n (emptyX a x i) t K with
  | none=>none
  | some l1=>match exposeF n (fullX a x i (m:Int)) t K with
   | none=>none
   | some l2=>some (l1++l2)
theorem expose_bad {n:Nat} {a:Asn} {t:Int} {K:Nat} (h:a.valid=false):exposeF n a t K=none:=by
 cases n with
 | zero=>rfl
 | succ n=>simp[exposeF,h]
theorem expose_no {n:Nat} {a:Asn} {t:Int} {K:Nat} (h:a.valid=true) (hc:consB a=false):exposeF (n+1) a t K=some []:=by simp[exposeF,h,hc]
theorem expose_cell {n:Nat} {a:Asn} {t:Int} {K i:Nat} {x:Atm} (h:a.valid=true) (hc:consB a=true) (hf:findK a 1 t=some i) (hx:a.atoms[i]? = some x):exposeF (n+1) a t K=if (cellX a x i t).valid then some [cellX a x i t] else none:=by
 simp[exposeF,h,hc,hf,hx]
theorem expose_none {n:Nat} {a:Asn} {t:Int} {K:Nat} (h:a.valid=true) (hc:consB a=true) (hf:findK a 1 t=none) (hg:findK a 2 t=none):exposeF (n+1) a t K=none:=by simp[exposeF,h,hc,hf,hg]
theorem expose_list {n:Nat} {a:Asn} {t:Int} {K i:Nat} {x:Atm} (h:a.valid=true) (hc:consB a=true) (hf:findK a 1 t=none) (hg:findK a 2 t=some i) (hx:a.atoms[i]? = some x):exposeF (n+1) a t K=listF n a x i t K:=by
 simp only[exposeF,h,hc,hf,hg,hx,listF,Option.getD_some];rfl
theorem expose_ok:∀ {n:Nat} {a:Asn} {t:Int} {K:Nat} {l:List Asn},exposeF n a t K=some l→l.length≤2 ^ n∧∀ b∈l,b.valid=true
 | 0,_,_,_,_,h=>by cases h
 | n+1,a,t,K,l,h=>by
  unfold exposeF at h
  split at h
  ·cases h
  ·split at h
   ·obtain rfl:=Option.some.inj h;simp
   ·split at h
    ·split at h
     ·rename_i hv;obtain rfl:=Option.some.inj h;refine ⟨by simp;exact Nat.one_le_two_pow,fun b hb=>?_⟩;obtain rfl:=List.mem_singleton.1 hb;exact hv
     ·cases h
    ·split at h
     ·cases h
     ·split at h
      ·cases h
      ·split at h
       ·cases h
       ·split at h
        ·cases h
        ·rename_i e1 _ _ e2;obtain rfl:=Option.some.inj h;have h1:=expose_ok e1;have h2:=expose_ok e2;refine ⟨by rw[List.length_append,Nat.pow_succ];omega,fun b hb=>?_⟩;rcases List.mem_append.1 hb with hb|hb
         ·exact h1.2 b hb
         ·exact h2.2 b hb
def ExpC (n:Nat) (a:Asn) (t:Int) (K:Nat):Prop:=∀ (lo hi:Nat) (v:Value) (w:World),AsnC w lo hi v a→hi≤w.heap.size→a.valid=true→
 Calls Tryz.prog 158 #[v,.int .i64 t,.int .u16 K] w fun e w'=>∃ r vs,e=.returned (.tuple #[r,.bool (exposeF n a t K).isSome])∧A2O w' w.heap.size r vs ((exposeF n a t K).getD [])∧Below w.heap.size w w'
def ExpL (n:Nat) (a:Asn) (x:Atm) (i:Nat) (t:Int) (K:Nat):Prop:=∀ (lo hi:Nat) (v:Value) (w:World),AsnC w lo hi v a→hi≤w.heap.size→
 Calls Tryz.prog 212 #[v,.int .i64 i,.int .i64 t,.int .u16 K] w fun e w'=>∃ r vs,e=.returned (.tuple #[r,.bool (listF n a x i t K).isSome])∧A2O w' w.heap.size r vs ((listF n a x i t K).getD [])∧Below w.heap.size w w'
theorem c_expose_step (n:Nat) (a:Asn) (t:Int) (K:Nat) (HL:∀ i x,findK a 1 t=none→findK a 2 t=some i→a.atoms[i]? = some x→x.kind=2→impB a ⟨true,x.a,t⟩=true→ExpL n a x i t K):ExpC (n+1) a t K:=by
 intro lo hi v w h hhi hv;have hV:=ax h;obtain ⟨A1,c1,A2,c2,rfl,-⟩:=h;have HLL:=ax HL;have hvl:=valid_len hv;have HV:=ax hv;clear HL hv;(go_enter Tryz.func158,Tryz.ntmps158);have k0:Blk (w.alloc (.cells #[.slice A1 a.facts.length c1,.slice A2 a.atoms.length c2] tAs)) w.heap.size tAs #[.slice A1 a.facts.length c1,.slice A2 a.atoms.length c2]:=blks;(go_wp2_with fail);refine (c_impl_Consistent _ a _ (hV.o.V.bz bel) (by simp;omega)).mono ?_;rintro e w1 ⟨rfl,hB1⟩;rw[show (a.valid && !(cases a (caseS a 0)).isEmpty)=consB a from rfl];have hB:=bgo (w:=w) bel hB1;replace k0:=k0.nz hB1;clear hB1;have hz1:=hB.size;cases hc:consB a
 ·have E:=ax (expose_no (n:=n) (t:=t) (K:=K) HV.o hc);clear hc;(go_wp2_with fail);go_ret2;exact ⟨_,_,by rw[E.o];rfl,by rw[E.o];exact A2O.nil _ _,hB⟩
 have HC:=ax hc;clear hc;(replace qk0:=k0.z);(go_wp2_with fail);refine (c_impl_firstAtomAt _ a 1 t _ (hV.o.V.bz bel) (by omega)).mono ?_;rintro e w2 ⟨rfl,hB2⟩;(replace hB:=bgo hB hB2;replace k0:=k0.nz hB2;replace qk0:=k0.z);clear hB2;have hz2:=hB.size;cases hf:findK a 1 t
 case some i=>
  obtain ⟨x,hx,-,-,hil⟩:=find_some hf;have E:=ax (expose_cell (n:=n) (K:=K) HV.o HC.o hf hx);have EI:findI a 1 t=(i:Int):=by unfold findI;rw[hf]
  rw[EI];have hxe:a.atoms[i]=x:=by rw[List.getElem?_eq_getElem hil] at hx;exact Option.some.inj hx
  clear hf hx EI;(go_wp2_with fail);refine (c_impl_exposeCellAt _ a i t _ (hV.o.bz bel) hil (by omega)).mono ?_;rw[hxe];rintro e w3 ⟨r,rfl,oC,hB3⟩;(replace hB:=bgo hB hB3;replace k0:=k0.nz hB3);clear hB3 hxe;have OC:=ax oC;obtain ⟨F3,f3,G3,g3,rfl,-⟩:=oC.C;have hz3:=hB.size;clear qk0;cases hcv:(cellX a x i t).valid
  ·have E2:aJ (exposeF (n+1) a t K=none):=ax (by rw[E.o,hcv];rfl);clear hcv;(go_wp2_with fail);go_ret2;exact ⟨_,_,by rw[E2.o];rfl,by rw[E2.o];exact A2O.nil _ _,bel⟩
  ·have E2:aJ (exposeF (n+1) a t K=some [cellX a x i t]):=ax (by rw[E.o,hcv];rfl);clear hcv;(go_wp2_with fail);go_ret2;refine ⟨.slice (some ⟨w3.heap.size+1,0,none⟩) 1 1,[.slice F3 (cellX a x i t).facts.length f3,.slice G3 (cellX a x i t).atoms.length g3],by rw[E2.o];rfl,?_,bel⟩;rw[E2.o];refine A2O.one (Blk.newE ?_) ?_ (AsnO.bz (AsnO.lower OC.o (by omega)) bel)
   ·simp
   ·omega
 have HF1:=ax hf;have EI:findI a 1 t=0:=by unfold findI;rw[hf]
 rw[EI];clear hf EI;(go_wp2_with fail);refine (c_impl_firstAtomAt _ a 2 t _ (hV.o.V.bz bel) (by omega)).mono ?_;rintro e w3 ⟨rfl,hB3⟩;(replace hB:=bgo hB hB3;replace k0:=k0.nz hB3;replace qk0:=k0.z);clear hB3;have hz3:=hB.size;cases hg:findK a 2 t
 case none=>
  have E:=ax (expose_none (n:=n) (K:=K) HV.o HC.o HF1.o hg);clear hg;(go_wp2_with fail);go_ret2;exact ⟨_,_,by rw[E.o];rfl,by rw[E.o];exact A2O.nil _ _,hB⟩
 case some i=>
  obtain ⟨x,hx,hk2,himp,hil⟩:=find_some hg;have E:=ax (expose_list (n:=n) (K:=K) HV.o HC.o HF1.o hg hx);have EI:findI a 2 t=(i:Int):=by unfold findI;rw[hg]
  rw[EI];have HX:=ax (HLL.o i x HF1.o hg hx hk2 himp);clear hg hx EI hk2 himp;(go_wp2_with fail);refine (HX.o lo hi _ _ (hV.o.bz bel) (by omega)).mono ?_;rintro e w4 ⟨r,vs,rfl,oR,hB4⟩;have OR:=ax oR;obtain ⟨R1,r1,rfl⟩:=oR.form;clear oR;(replace hB:=bgo hB hB4);(go_wp2_with fail);go_ret2;refine ⟨_,vs,by rw[E.o];rfl,?_,bel⟩;rw[E.o];exact OR.o.lower (by omega)
theorem list_none {n:Nat} {a:Asn} {x:Atm} {i:Nat} {t:Int} {K:Nat} (h:newT (tset (termsL a)|||tins K t)=none):listF n a x i t K=none:=by unfold listF;rw[h]
theorem list_bad {n m:Nat} {a:Asn} {x:Atm} {i:Nat} {t:Int} {K:Nat} (h:newT (tset (termsL a)|||tins K t)=some m) (hv:(emptyX a x i).valid=false∨(fullX a x i m).valid=false):listF n a x i t K=none:=by
 unfold listF;rw[h];rcases hv with hv|hv
 ·simp only[expose_bad hv]
 ·simp only[expose_bad hv];cases exposeF n (emptyX a x i) t K<;>rfl
theorem list_first {n m:Nat} {a:Asn} {x:Atm} {i:Nat} {t:Int} {K:Nat} (h:newT (tset (termsL a)|||tins K t)=some m) (h1:exposeF n (emptyX a x i) t K=none):listF n a x i t K=none:=by
 unfold listF;rw[h];simp only[h1]
theorem list_second {n m:Nat} {a:Asn} {x:Atm} {i:Nat} {t:Int} {K:Nat} (h:newT (tset (termsL a)|||tins K t)=some m) (h1:exposeF n (fullX a x i m) t K=none):listF n a x i t K=none:=by
 unfold listF;rw[h];simp only[h1];cases exposeF n (emptyX a x i) t K<;>rfl
theorem list_both {n m:Nat} {a:Asn} {x:Atm} {i:Nat} {t:Int} {K:Nat} {l1 l2:List Asn} (h:newT (tset (termsL a)|||tins K t)=some m) (h1:exposeF n (emptyX a x i) t K=some l1) (h2:exposeF n (fullX a x i m) t K=some l2):listF n a x i t K=some (l1++l2):=by
 unfold listF;rw[h];simp only[h1,h2]
theorem c_joinFn {lo hi lo' hi':Nat} (A A':Option Addr) (c c' n:Nat) (fs gs:List Fct) (w:World) (h:FactsV w lo hi A fs) (h':FactsV w lo' hi' A' gs) (hn:n=fs.length+gs.length) (hl:n≤1049600) :
  Calls Tryz.prog 101 #[.slice A fs.length c,.slice A' gs.length c'] w fun e w'=>∃ F d,e=.returned (.slice F n d)∧FactsO w' w.heap.size (.slice F n d) (fs++gs)∧Below w.heap.size w w':=by
 refine (c_joinF A A' c c' fs gs w h h' (by omega)).mono ?_;rintro e w' ⟨r,rfl,o,hB⟩;obtain ⟨F,d,rfl,-⟩:=o.reads;rw[List.length_append,←hn] at o ⊢;exact ⟨F,d,rfl,o,hB⟩
theorem c_joinAn {lo hi lo' hi':Nat} (A A':Option Addr) (c c' n:Nat) (fs gs:List Atm) (w:World) (h:AtomsV w lo hi A fs) (h':AtomsV w lo' hi' A' gs) (hn:n=fs.length+gs.length) (hl:n≤1049600) :
  Calls Tryz.prog 102 #[.slice A fs.length c,.slice A' gs.length c'] w fun e w'=>∃ F d,e=.returned (.slice F n d)∧AtomsO w' w.heap.size (.slice F n d) (fs++gs)∧Below w.heap.size w w':=by
 refine (c_joinA A A' c c' fs gs w h h' (by omega)).mono ?_;rintro e w' ⟨r,rfl,o,hB⟩;obtain ⟨F,d,rfl,-⟩:=o.reads;rw[List.length_append,←hn] at o ⊢;exact ⟨F,d,rfl,o,hB⟩
section
variable {ops:Array Oper} {o:Oper} {a:Act} {K:Act→World→Prop} {Q:Exit→Act→World→Prop} {E:Prop} {w:World} {base lo hi c n:Nat} {v:Value} {A:Option Addr}
theorem stepALn {Y:Nat→Option Bool} (hgd:o.guard=none) (s x:Operand) (ho:o.op=.call { callee:=.builtin .append,args:=#[s,x],argTypes:=#[34,34] })
  {xs ys:List Atm} (hs:a.eval s=v) (hown:AtomsO w base v xs) (hx:a.eval x=.slice A ys.length c) (hR:AtomsV w lo hi A ys) (hn:n=xs.length+ys.length) (hl:n≤1049600) (hb:base≤w.heap.size)
  (h:∀ A' c' w',AtomsO w' base (.slice A' n c') (xs++ys)→w.grownBy w' v.ownBlock→Below base w w'→K (a.put o.dst (.slice A' n c')) w'):if Region.wanted o Y=true then Oper.wp Tryz.prog o a w K Q else E:=by
 have hw:Region.wanted o Y=true:=by simp[Region.wanted,hgd]
 have hw':Region.wanted o (yielded #[] a.tmps)=true:=by simp[Region.wanted,hgd]
 rw[if_pos hw]
 suffices H:if Region.wanted o (yielded #[] a.tmps)=true then Oper.wp Tryz.prog o a w K Q else E by rwa [if_pos hw'] at H
 refine stepAL hgd s x ho hs hown hx hR (by omega) hb ?_;intro A' c' w' h1 h2 h3;rw[List.length_append,←hn] at h1 ⊢;exact h A' c' w' h1 h2 h3
end
theorem A2O.rd {w:World} {base n c:Nat} {A:Option Addr} {vs:List Value} {ss:List Asn} (h:A2O w base (.slice A n c) vs ss):Rd w base w.heap.size 2 A ss.length vs:=by
 obtain ⟨A',c',e,h1⟩:=own_reads h.row h.lim;injection e with e1 e2 e3;subst e1;exact h1
theorem A2O.join {w1 w2 w3:World} {b1 b2 b3 base:Nat} {v1 v2 r:Value} {vs1 vs2:List Value} {l1 l2:List Asn} (h1:A2O w1 b1 v1 vs1 l1) (hB1:Below w1.heap.size w1 w2) (h2:A2O w2 b2 v2 vs2 l2) (hb2:w1.heap.size≤b2) (hB2:Below w2.heap.size w2 w3)
  (hb:base≤b1) (hbb:base≤b2) (hr:w3.ownsRow b3 tAs 2 r (l1.length+l2.length) (vs1++vs2)) (hb3:base≤b3) (hl:l1.length+l2.length≤1049600):A2O w3 base r (vs1++vs2) (l1++l2):=
 ⟨by rw[List.length_append];exact own_lower hr hb3,by rw[List.length_append];exact hl,(((h1.els.bz hB1).lower hb).cat h2.els hbb fun k hk=>(h1.els.und k hk).mono hb2).bz hB2⟩
theorem c_exposeListAt (n:Nat) (a:Asn) (x:Atm) (i:Nat) (t:Int) (Ks:Nat) (hv:a.valid=true) (hx:a.atoms[i]? = some x) (hKs:Ks<512) (hn:n≤6)
  (HE:ExpC n (emptyX a x i) t Ks) (HF:∀ m:Nat,ExpC n (fullX a x i (m:Int)) t Ks):ExpL n a x i t Ks:=by
 intro lo hi0 v w h hhi;have hV:=ax h;obtain ⟨A1,c1,A2,c2,rfl,h1,h2,-⟩:=h;have H1:=ax h1;have hvl:=valid_len hv;obtain ⟨hi,hxe⟩:=List.getElem?_eq_some_iff.1 hx;have hwl:=withoutL_len hi;obtain ⟨b,o,rfl,g0,g1,g2⟩:=h2.at hi;rw[hxe] at g0 g1 g2;have hbl:=block_lt_of_cell g0;simp only at hbl;have hii:(i:Int)<(a.atoms.length:Int):=by omega
 have HEH:=ax HE;have HFH:=ax HF;have HK:=ax (tins_lt hKs t);have HN:=ax (Nat.pow_le_pow_right (show 0<2 from by decide) hn);clear h1 h2 HE HF hx hxe hv hhi;(go_enter Tryz.func212,Tryz.ntmps212);have k0:Blk (w.alloc (.cells #[.slice A1 a.facts.length c1,.slice (some ⟨b,o,none⟩) a.atoms.length c2] tAs)) w.heap.size tAs #[.slice A1 a.facts.length c1,.slice (some ⟨b,o,none⟩) a.atoms.length c2]:=blks;have hB:Below w.heap.size w (w.alloc (.cells #[.slice A1 a.facts.length c1,.slice (some ⟨b,o,none⟩) a.atoms.length c2] tAs)):=bel;(go_upto_region 2 with fail);have hB2:=bbox hB (.cells #[.int .i64 x.kind,.int .i64 x.a,.int .i64 x.b] tA);have kx:Blk ((w.alloc (.cells #[.slice A1 a.facts.length c1,.slice (some ⟨b,o,none⟩) a.atoms.length c2] tAs)).alloc (.cells #[.int .i64 x.kind,.int .i64 x.a,.int .i64 x.b] tA)) (w.heap.size+1) tA #[.int .i64 x.kind,.int .i64 x.a,.int .i64 x.b]:=blks;replace k0:=k0.alloc (.cells #[.int .i64 x.kind,.int .i64 x.a,.int .i64 x.b] tA);have hs2:((w.alloc (.cells #[.slice A1 a.facts.length c1,.slice (some ⟨b,o,none⟩) a.atoms.length c2] tAs)).alloc (.cells #[.int .i64 x.kind,.int .i64 x.a,.int .i64 x.b] tA)).heap.size=w.heap.size+2:=by simp
 generalize ((w.alloc (.cells #[.slice A1 a.facts.length c1,.slice (some ⟨b,o,none⟩) a.atoms.length c2] tAs)).alloc (.cells #[.int .i64 x.kind,.int .i64 x.a,.int .i64 x.b] tA))=W2 at k0 kx hB2 hs2 ⊢;clear hB g0 g1 g2;have HB2:=ax hB2;clear hB2;(replace qk0:=k0.z);(go_wp2_with fail);refine (c_impl_without _ a i _ (hV.o.bz HB2.o) hi).mono ?_;rintro e w3 ⟨r,rfl,oR,hB3⟩;obtain ⟨G1,d1,rfl,-⟩:=oR.reads;have OR:=ax oR;have HB3:=ax (bgo HB2.o hB3);replace k0:=k0.nz hB3;replace kx:=kx.nz hB3;have hs3:w.heap.size+2≤w3.heap.size:=by have:=hB3.size;omega
 have hs3':=hB3.size;clear hB3 oR HB2;(replace qk0:=k0.z);(go_wp2_with fail);clear qk0;refine wp_region_noPanic ?_;refine wp_region_held_drew (S:=(fun w'=>∀ i,w'.cell? ⟨w.heap.size,i,none⟩=#[.slice A1 a.facts.length c1,.slice (some ⟨b,o,none⟩) a.atoms.length c2][i]?)) (by kernel_rfl) (k0.drew.cell) (fun aH=>?_);refine tk2 0 rfl aH (h:=tk2 1 rfl aH (h:=tk2 2 rfl aH (h:=?_)));refine rdc 3 rfl fun K hK=>?_;(try simp only[zz]);(go_simp;refine (c_impl_with Ks t _ hKs).mono ?_;rintro e w4 ⟨rfl,rfl⟩);refine hK.out _ _ (k0.drew.cell) ?_;clear aH hK K;intro aH;refine rdc 4 rfl fun K hK=>?_;(try simp only[zz]);(go_simp;refine (c_impl_newVariable _ a (tins Ks t) _ (hV.o.V.bz (HB3.o.drew)) HK.o).mono ?_;rintro e w4 ⟨rfl,hB4⟩;replace hB4:Below w3.heap.size w3 w4:=(Below.refl _ _).drew.trans hB4;replace k0:=k0.nz hB4;replace kx:=kx.nz hB4;have HB4:=ax (bgo HB3.o hB4);have OR4:=ax (OR.o.bz hB4);have hs4:=hB4.size;clear hB4 OR HB3);refine hK.out _ _ (k0.cell) ?_;clear aH hK K;intro aH;(try simp only[zz]);refine tk2 5 rfl aH (h:=tk2 6 rfl aH (h:=tk2 7 rfl aH (h:=?_)));refine rdc 8 rfl fun K hK=>?_;(try simp only[zz]);go_simp;refine hK.out _ _ (k0.cell) ?_;clear aH hK K;intro aH;refine rdc 9 rfl fun K hK=>?_;(try simp only[zz]);go_simp;refine hK.out _ _ (k0.cell) ?_;clear aH hK K;intro aH;(try simp only[zz]);refine dn1 ?_;cases hnt:newT (tset (termsL a)|||tins Ks t)
 case none=>
  have E:=ax (list_none (n:=n) (x:=x) (i:=i) hnt);clear hnt;(go_wp2_with fail);go_ret2;exact ⟨_,_,by rw[E.o];rfl,by rw[E.o];exact A2O.nil _ _,HB4.o⟩
 case some m=>
  have EI:unusedI (tset (termsL a)|||tins Ks t)=(m:Int):=by unfold unusedI;rw[hnt]
  rw[EI];clear EI;have HNT:=ax hnt;clear hnt;(replace qk0:=k0.z;replace qkx:=kx.z);(go_upto_region 8 with (go_at_call 101;refine (c_joinFn A1 (some ⟨w4.heap.size,0,none⟩) c1 1 (a.facts.length+1) a.facts [⟨true,x.a,x.b⟩] _ (H1.o.bz (bbox HB4.o _)) (FactsV.one (f:=⟨true,x.a,x.b⟩) (Blk.new _ _ _)) rfl (by omega)).mono ?_;rintro e w5 ⟨F1,e1,rfl,oF,hB5⟩;replace hB5:Below w4.heap.size w4 w5:=(bbox (Below.refl _ _) _).trans (hB5.mono (by simp));have OF1:=ax (oF.lower (base':=w.heap.size) (by simp;omega));have HB5:=ax (bgo HB4.o hB5);have hs5:=hB5.size;replace k0:=k0.nz hB5;replace kx:=kx.nz hB5;have OR5:=ax (OR4.o.bz hB5);clear oF hB5 HB4 OR4 qk0 qkx;(replace qk0:=k0.z;replace qkx:=kx.z)));have kE:Blk ((w5.alloc (.cells #[.slice F1 (a.facts.length+1) e1,.slice G1 (withoutL a.atoms i).length d1] tAs)).alloc (.cells #[.int .i64 1,.int .i64 x.a,.int .i64 m] tA)) w5.heap.size tAs #[.slice F1 (a.facts.length+1) e1,.slice G1 (withoutL a.atoms i).length d1]:=(Blk.new _ _ _).alloc _;have kf:Blk ((w5.alloc (.cells #[.slice F1 (a.facts.length+1) e1,.slice G1 (withoutL a.atoms i).length d1] tAs)).alloc (.cells #[.int .i64 1,.int .i64 x.a,.int .i64 m] tA)) (w5.heap.size+1) tA #[.int .i64 1,.int .i64 x.a,.int .i64 m]:=Blk.newE (by simp);have hbW:Below w5.heap.size w5 ((w5.alloc (.cells #[.slice F1 (a.facts.length+1) e1,.slice G1 (withoutL a.atoms i).length d1] tAs)).alloc (.cells #[.int .i64 1,.int .i64 x.a,.int .i64 m] tA)):=bbox (bbox (Below.refl _ _) _) _;have hsW:((w5.alloc (.cells #[.slice F1 (a.facts.length+1) e1,.slice G1 (withoutL a.atoms i).length d1] tAs)).alloc (.cells #[.int .i64 1,.int .i64 x.a,.int .i64 m] tA)).heap.size=w5.heap.size+2:=by simp
  replace k0:=k0.nz hbW;replace kx:=kx.nz hbW;have HB:=ax (bgo HB5.o hbW);have OF:=ax (OF1.o.bz hbW);have OR:=ax ((OR5.o.bz hbW).lower (base':=w.heap.size) (by omega));clear hbW HB5 OF1 OR5 qk0 qkx;generalize ((w5.alloc (.cells #[.slice F1 (a.facts.length+1) e1,.slice G1 (withoutL a.atoms i).length d1] tAs)).alloc (.cells #[.int .i64 1,.int .i64 x.a,.int .i64 m] tA))=W at k0 kx kE kf hsW HB OF OR ⊢;obtain ⟨yE,hyE⟩:∃ y,y=w5.heap.size:=⟨_,rfl⟩;rw[←hyE] at kE kf hsW ⊢;have hyw:w.heap.size+2≤yE:=by omega
  clear hyE hs5 hs4 hs3 hs3' hs2
  go_cut [16] (fun s16 wc=>∃ (xb:Nat) (F2:Option Addr) (e2:Nat) (G2:Option Addr) (e3:Nat),s16=.pointer (some ⟨xb,0,none⟩)∧aJ (FactsO wc W.heap.size (.slice F2 (a.facts.length+1) e2) (a.facts++[⟨false,x.a,x.b⟩]))∧aJ (AtomsO wc W.heap.size (.slice G2 (a.atoms.length+1) e3) (([⟨1,x.a,(m:Int)⟩]++withoutL a.atoms i)++[⟨2,(m:Int),x.b⟩]))∧Blk wc xb tAs #[.slice F2 (a.facts.length+1) e2,.slice G2 (a.atoms.length+1) e3]∧W.heap.size≤xb∧aJ (Below W.heap.size W wc))
  case first=>
   (replace qk0:=k0.z;replace qkx:=kx.z);(go_wp2_with fail);refine wp_region_noPanic ?_;refine wp_region_held_drew (S:=(fun w'=>(∀ i,w'.cell? ⟨w.heap.size,i,none⟩=#[.slice A1 a.facts.length c1,.slice (some ⟨b,o,none⟩) a.atoms.length c2][i]?)∧(∀ i,w'.cell? ⟨w.heap.size+1,i,none⟩=#[.int .i64 x.kind,.int .i64 x.a,.int .i64 x.b][i]?))) (by kernel_rfl) (⟨k0.drew.cell,kx.drew.cell⟩) (fun aH=>?_);clear qk0 qkx;have HBQ:aJ (Below W.heap.size W W.drew):=ax (Below.refl _ _).drew;have hzq:W.heap.size≤W.drew.heap.size:=Nat.le_refl _;generalize W.drew=wq at HBQ hzq aH ⊢;refine tk2 0 rfl aH (h:=tk2 1 rfl aH (h:=tk2 2 rfl aH (h:=?_)));(try simp only[zz]);refine tk2 3 rfl aH (h:=tk2 4 rfl aH (h:=tk2 5 rfl aH (h:=?_)));(try simp only[zz]);refine tk2 6 rfl aH (h:=tk2 9 rfl aH (h:=tk2 10 rfl aH (h:=?_)));(try simp only[zz]);refine tk2 12 rfl aH (h:=tk2 13 rfl aH (h:=tk2 14 rfl aH (h:=?_)));(try simp only[zz]);refine tk2 15 rfl aH (h:=?_);(try simp only[zz])
   refine wpAnyH_par [7,8,11,16,17,18,19] #[true,true,true,true,true,true,true,true,true,true,true,true,true,true,true,true,true,true,true,true,false] 7 (by kernel_rfl) aH
    (fun a0 D a1 w'=>aJ (Below W.heap.size W w')∧∃ v61 v62 v65 v70 v71 v72 v16,a1=(((((((a0.put (some 61) v61).put (some 62) v62).put (some 65) v65).put (some 70) v70).put (some 71) v71).put (some 72) v72).put (some 16) v16)∧
     aJ (dn D 7=true→∃ y,v61=.slice (some ⟨y,0,none⟩) 1 1∧W.heap.size≤y∧Blk w' y tF #[.bool false,.int .i64 x.a,.int .i64 x.b])∧
     aJ (dn D 8=true→∃ F e,v62=.slice F (a.facts.length+1) e∧FactsO w' W.heap.size (.slice F (a.facts.length+1) e) (a.facts++[⟨false,x.a,x.b⟩]))∧
     aJ (dn D 11=true→dn D 17=false→∃ G e,v65=.slice G a.atoms.length e∧AtomsO w' W.heap.size (.slice G a.atoms.length e) ([⟨1,x.a,(m:Int)⟩]++withoutL a.atoms i))∧
     aJ (dn D 16=true→dn D 17=false→∃ y,v70=.slice (some ⟨y,0,none⟩) 1 1∧W.heap.size≤y∧Blk w' y tA #[.int .i64 2,.int .i64 m,.int .i64 x.b])∧
     aJ (dn D 17=true→∃ G e,v71=.slice G (a.atoms.length+1) e∧AtomsO w' W.heap.size (.slice G (a.atoms.length+1) e) (([⟨1,x.a,(m:Int)⟩]++withoutL a.atoms i)++[⟨2,(m:Int),x.b⟩]))∧
     aJ (dn D 18=true→(dn D 8=true∧dn D 17=true)∧v72=.agg #[v62,v71])∧
     aJ (dn D 19=true→∃ y,v16=.pointer (some ⟨y,0,none⟩)∧W.heap.size≤y∧Blk w' y tAs #[.slice none 0 0,.slice none 0 0])) ?start ?steps ?fin
   case start=>exact ⟨HBQ,undef,undef,undef,undef,undef,undef,undef,(by simp only[Act.put,List.setIfInBounds_toArray,List.set_cons_zero,List.set_cons_succ]),fun h=>absurd h (by decide),fun h=>absurd h (by decide),fun h=>absurd h (by decide),fun h=>absurd h (by decide),fun h=>absurd h (by decide),fun h=>absurd h (by decide),fun h=>absurd h (by decide)⟩
   case steps=>
    refine ParSteps.cons rfl (fun D a1 w' hu hd hI hS K' hK G hG=>?_) (ParSteps.cons rfl (fun D a1 w' hu hd hI hS K' hK G hG=>?_) (ParSteps.cons rfl (fun D a1 w' hu hd hI hS K' hK G hG=>?_) (ParSteps.cons rfl (fun D a1 w' hu hd hI hS K' hK G hG=>?_) (ParSteps.cons rfl (fun D a1 w' hu hd hI hS K' hK G hG=>?_) (ParSteps.cons rfl (fun D a1 w' hu hd hI hS K' hK G hG=>?_) (ParSteps.cons rfl (fun D a1 w' hu hd hI hS K' hK G hG=>?_) (ParSteps.nil)))))))
    ·obtain ⟨HW,v61,v62,v65,v70,v71,v72,v16,ha,h7,h8,h11,h16,h17,h18,h19⟩:=hI;rw[ha] at hG;clear ha a1;have hsz:=HW.o.size;refine hG ?_;clear hG hd;(try simp only[zz]);go_simp;have hBq:Below w'.heap.size w' (w'.alloc (.cells #[.bool false,.int .i64 x.a,.int .i64 x.b] tF)):=bbox (Below.refl _ _) _;exact hK.out _ _ ⟨((k0.nz HW.o).alloc _).cell,((kx.nz HW.o).alloc _).cell⟩ ⟨HW.o.trans (hBq.mono hsz),(.slice (some ⟨w'.heap.size,0,none⟩) 1 1),v62,v65,v70,v71,v72,v16,(by simp only[Act.put,List.setIfInBounds_toArray,List.set_cons_zero,List.set_cons_succ]),(fun _=>⟨_,rfl,hsz,Blk.new _ _ _⟩),(dn_keep (by decide) h8.o fun ⟨F,e,r,o⟩=>⟨F,e,r,o.bz hBq⟩),(fun p q=>by rw[dn_ne (by decide)] at p q;obtain ⟨G,e,r,o⟩:=h11.o p q;exact ⟨G,e,r,o.bz hBq⟩),(fun p q=>by rw[dn_ne (by decide)] at p q;obtain ⟨y,e,hy,k⟩:=h16.o p q;exact ⟨y,e,hy,k.nz hBq⟩),(dn_keep (by decide) h17.o fun ⟨F,e,r,o⟩=>⟨F,e,r,o.bz hBq⟩),(fun p=>by rw[dn_ne (by decide)] at p;rw[dn_ne (by decide),dn_ne (by decide)];exact h18.o p),(dn_keep (by decide) h19.o fun ⟨y,e,hy,k⟩=>⟨y,e,hy,k.nz hBq⟩)⟩
    ·obtain ⟨HW,v61,v62,v65,v70,v71,v72,v16,ha,h7,h8,h11,h16,h17,h18,h19⟩:=hI;rw[ha] at hG;clear ha a1;have hsz:=HW.o.size;obtain ⟨y,rfl,hy,k7⟩:=h7.o (hd ⟨7,.data⟩ (by simp) (by decide));have K7:=ax k7;clear k7;refine hG ?_;clear hG hd;(try simp only[zz]);go_simp;refine (c_joinFn A1 (some ⟨y,0,none⟩) c1 1 (a.facts.length+1) a.facts [⟨false,x.a,x.b⟩] _ (H1.o.bz (bgo HB.o HW.o)) (FactsV.one (f:=⟨false,x.a,x.b⟩) K7.o) rfl (by omega)).mono ?_;rintro e wq ⟨F2,e2,rfl,oF,hBq⟩;exact hK.out _ _ ⟨((k0.nz HW.o).nz hBq).cell,((kx.nz HW.o).nz hBq).cell⟩ ⟨HW.o.trans (hBq.mono hsz),(.slice (some ⟨y,0,none⟩) 1 1),(.slice F2 (a.facts.length+1) e2),v65,v70,v71,v72,v16,(by simp only[Act.put,List.setIfInBounds_toArray,List.set_cons_zero,List.set_cons_succ]),fun _=>⟨y,rfl,hy,K7.o.nz hBq⟩,fun _=>⟨F2,e2,rfl,oF.lower hsz⟩,(fun p q=>by rw[dn_ne (by decide)] at p q;obtain ⟨G,e,r,o⟩:=h11.o p q;exact ⟨G,e,r,o.bz hBq⟩),(fun p q=>by rw[dn_ne (by decide)] at p q;obtain ⟨y,e,hy,k⟩:=h16.o p q;exact ⟨y,e,hy,k.nz hBq⟩),(dn_keep (by decide) h17.o fun ⟨F,e,r,o⟩=>⟨F,e,r,o.bz hBq⟩),(fun p=>by rw[dn_ne (by decide)] at p;have:=(h18.o p).1.1;rw[dn_un hu] at this;cases this),(dn_keep (by decide) h19.o fun ⟨y,e,hy,k⟩=>⟨y,e,hy,k.nz hBq⟩)⟩
    ·obtain ⟨HW,v61,v62,v65,v70,v71,v72,v16,ha,h7,h8,h11,h16,h17,h18,h19⟩:=hI;rw[ha] at hG;clear ha a1;have hsz:=HW.o.size;refine hG ?_;clear hG hd;(try simp only[zz]);go_simp;refine (c_joinAn (some ⟨yE+1,0,none⟩) G1 1 d1 a.atoms.length [⟨1,x.a,(m:Int)⟩] (withoutL a.atoms i) _ (AtomsV.one (f:=⟨1,x.a,(m:Int)⟩) (kf.nz HW.o)) (OR.o.readsI.2.bz HW.o) (by simp<;>omega) (by omega)).mono ?_;rintro e wq ⟨G2,e3,rfl,oJ,hBq⟩;exact hK.out _ _ ⟨((k0.nz HW.o).nz hBq).cell,((kx.nz HW.o).nz hBq).cell⟩ ⟨HW.o.trans (hBq.mono hsz),v61,v62,(.slice G2 a.atoms.length e3),v70,v71,v72,v16,(by simp only[Act.put,List.setIfInBounds_toArray,List.set_cons_zero,List.set_cons_succ]),(dn_keep (by decide) h7.o fun ⟨y,e,hy,k⟩=>⟨y,e,hy,k.nz hBq⟩),(dn_keep (by decide) h8.o fun ⟨F,e,r,o⟩=>⟨F,e,r,o.bz hBq⟩),(fun _ _=>⟨G2,e3,rfl,oJ.lower hsz⟩),(fun p q=>by rw[dn_ne (by decide)] at p q;obtain ⟨y,e,hy,k⟩:=h16.o p q;exact ⟨y,e,hy,k.nz hBq⟩),(dn_keep (by decide) h17.o fun ⟨F,e,r,o⟩=>⟨F,e,r,o.bz hBq⟩),(fun p=>by rw[dn_ne (by decide)] at p;rw[dn_ne (by decide),dn_ne (by decide)];exact h18.o p),(dn_keep (by decide) h19.o fun ⟨y,e,hy,k⟩=>⟨y,e,hy,k.nz hBq⟩)⟩
    ·obtain ⟨HW,v61,v62,v65,v70,v71,v72,v16,ha,h7,h8,h11,h16,h17,h18,h19⟩:=hI;rw[ha] at hG;clear ha a1;have hsz:=HW.o.size;refine hG ?_;clear hG hd;(try simp only[zz]);go_simp;have hBq:Below w'.heap.size w' (w'.alloc (.cells #[.int .i64 2,.int .i64 m,.int .i64 x.b] tA)):=bbox (Below.refl _ _) _;exact hK.out _ _ ⟨((k0.nz HW.o).alloc _).cell,((kx.nz HW.o).alloc _).cell⟩ ⟨HW.o.trans (hBq.mono hsz),v61,v62,v65,(.slice (some ⟨w'.heap.size,0,none⟩) 1 1),v71,v72,v16,(by simp only[Act.put,List.setIfInBounds_toArray,List.set_cons_zero,List.set_cons_succ]),(dn_keep (by decide) h7.o fun ⟨y,e,hy,k⟩=>⟨y,e,hy,k.nz hBq⟩),(dn_keep (by decide) h8.o fun ⟨F,e,r,o⟩=>⟨F,e,r,o.bz hBq⟩),(fun p q=>by rw[dn_ne (by decide)] at p q;obtain ⟨G,e,r,o⟩:=h11.o p q;exact ⟨G,e,r,o.bz hBq⟩),(fun _ _=>⟨_,rfl,hsz,Blk.new _ _ _⟩),(dn_keep (by decide) h17.o fun ⟨F,e,r,o⟩=>⟨F,e,r,o.bz hBq⟩),(fun p=>by rw[dn_ne (by decide)] at p;rw[dn_ne (by decide),dn_ne (by decide)];exact h18.o p),(dn_keep (by decide) h19.o fun ⟨y,e,hy,k⟩=>⟨y,e,hy,k.nz hBq⟩)⟩
    ·obtain ⟨HW,v61,v62,v65,v70,v71,v72,v16,ha,h7,h8,h11,h16,h17,h18,h19⟩:=hI;rw[ha] at hG;clear ha a1;have hsz:=HW.o.size;obtain ⟨G2,e3,rfl,oj⟩:=h11.o (hd ⟨11,.data⟩ (by simp) (by decide)) (dn_un hu);obtain ⟨y,rfl,hy,k16⟩:=h16.o (hd ⟨16,.data⟩ (by simp) (by decide)) (dn_un hu);refine hG ?_;clear hG hd;(try simp only[zz]);refine stepALn (ys:=[⟨2,(m:Int),x.b⟩]) (n:=a.atoms.length+1) rfl _ _ rfl rfl oj rfl (AtomsV.one (f:=⟨2,(m:Int),x.b⟩) k16) (by simp<;>omega) (by omega) hsz ?_;intro G3 e4 wq oB hg hBq;(try simp only[zz]);refine hK.out _ _ ⟨(k0.nz (HW.o.trans hBq)).cell,(kx.nz (HW.o.trans hBq)).cell⟩ ?_;exact ⟨HW.o.trans hBq,v61,v62,(.slice G2 a.atoms.length e3),(.slice (some ⟨y,0,none⟩) 1 1),(.slice G3 (a.atoms.length+1) e4),v72,v16,(by simp only[Act.put,List.setIfInBounds_toArray,List.set_cons_zero,List.set_cons_succ]),(dn_keep (by decide) h7.o fun ⟨y,e,hy,k⟩=>⟨y,e,hy,Blk.grownO k oj.1 hg (by decide)⟩),(dn_keep (by decide) h8.o fun ⟨F,e,r,o⟩=>⟨F,e,r,o.grownA oj hg⟩),(fun _ q=>by rw[dn_self hu] at q;cases q),(fun _ q=>by rw[dn_self hu] at q;cases q),fun _=>⟨G3,e4,rfl,oB⟩,(fun p=>by rw[dn_ne (by decide)] at p;have:=(h18.o p).1.2;rw[dn_un hu] at this;cases this),(dn_keep (by decide) h19.o fun ⟨y,e,hy,k⟩=>⟨y,e,hy,Blk.grownO k oj.1 hg (by decide)⟩)⟩
    ·obtain ⟨HW,v61,v62,v65,v70,v71,v72,v16,ha,h7,h8,h11,h16,h17,h18,h19⟩:=hI;rw[ha] at hG;clear ha a1;have hsz:=HW.o.size;have d8:=hd ⟨8,.data⟩ (by simp) (by decide);have d17:=hd ⟨17,.data⟩ (by simp) (by decide);obtain ⟨F2,e2,rfl,oF⟩:=h8.o d8;obtain ⟨G3,e4,rfl,oB⟩:=h17.o d17;replace oF:=ax oF;replace oB:=ax oB;replace d8:=ax d8;replace d17:=ax d17;refine hG ?_;clear hG hd;(try simp only[zz]);go_simp;exact hK.out _ _ hS ⟨HW.o,v61,(.slice F2 (a.facts.length+1) e2),v65,v70,(.slice G3 (a.atoms.length+1) e4),(.agg #[(.slice F2 (a.facts.length+1) e2),(.slice G3 (a.atoms.length+1) e4)]),v16,(by simp only[Act.put,List.setIfInBounds_toArray,List.set_cons_zero,List.set_cons_succ]),(dn_keep (by decide) h7.o fun ⟨y,e,hy,k⟩=>⟨y,e,hy,k⟩),fun _=>⟨F2,e2,rfl,oF.o⟩,(fun p q=>by rw[dn_ne (by decide)] at p q;obtain ⟨G,e,r,o⟩:=h11.o p q;exact ⟨G,e,r,o⟩),(fun p q=>by rw[dn_ne (by decide)] at p q;obtain ⟨y,e,hy,k⟩:=h16.o p q;exact ⟨y,e,hy,k⟩),fun _=>⟨G3,e4,rfl,oB.o⟩,fun _=>⟨⟨by rw[dn_ne (by decide)];exact d8.o,by rw[dn_ne (by decide)];exact d17.o⟩,rfl⟩,(dn_keep (by decide) h19.o fun ⟨y,e,hy,k⟩=>⟨y,e,hy,k⟩)⟩
    ·obtain ⟨HW,v61,v62,v65,v70,v71,v72,v16,ha,h7,h8,h11,h16,h17,h18,h19⟩:=hI;rw[ha] at hG;clear ha a1;have hsz:=HW.o.size;refine hG ?_;clear hG hd;(try simp only[zz]);go_simp;have hBq:Below w'.heap.size w' (w'.alloc (.cells #[.slice none 0 0,.slice none 0 0] tAs)):=bbox (Below.refl _ _) _;exact hK.out _ _ ⟨((k0.nz HW.o).alloc _).cell,((kx.nz HW.o).alloc _).cell⟩ ⟨HW.o.trans (hBq.mono hsz),v61,v62,v65,v70,v71,v72,(.pointer (some ⟨w'.heap.size,0,none⟩)),(by simp only[Act.put,List.setIfInBounds_toArray,List.set_cons_zero,List.set_cons_succ]),(dn_keep (by decide) h7.o fun ⟨y,e,hy,k⟩=>⟨y,e,hy,k.nz hBq⟩),(dn_keep (by decide) h8.o fun ⟨F,e,r,o⟩=>⟨F,e,r,o.bz hBq⟩),(fun p q=>by rw[dn_ne (by decide)] at p q;obtain ⟨G,e,r,o⟩:=h11.o p q;exact ⟨G,e,r,o.bz hBq⟩),(fun p q=>by rw[dn_ne (by decide)] at p q;obtain ⟨y,e,hy,k⟩:=h16.o p q;exact ⟨y,e,hy,k.nz hBq⟩),(dn_keep (by decide) h17.o fun ⟨F,e,r,o⟩=>⟨F,e,r,o.bz hBq⟩),(fun p=>by rw[dn_ne (by decide)] at p;rw[dn_ne (by decide),dn_ne (by decide)];exact h18.o p),(fun _=>⟨_,rfl,hsz,Blk.new _ _ _⟩)⟩
   case fin=>
    rintro a1 wz aH ⟨HBQ,v61,v62,v65,v70,v71,v72,v16,rfl,h7,h8,h11,h16,h17,h18,h19⟩;obtain ⟨F2,e2,rfl,oF⟩:=h8.o (by decide);obtain ⟨G3,e4,rfl,oB⟩:=h17.o (by decide);obtain rfl:=(h18.o (by decide)).2;obtain ⟨xb,rfl,hxbb,kBox⟩:=h19.o (by decide);have OF2:=ax oF;have OB:=ax oB;have hzq:=HBQ.o.size;clear h7 h8 h11 h16 h17 h18 h19 oF oB;(try simp only[zz]);have hlB:=kBox.lt;have qb:=kBox.cell;have rb:=kBox.frozen;refine rdc 20 rfl fun K hK=>?_;(try simp only[zz]);go_simp;refine hK.out _ _ (⟨(((k0.nz HBQ.o).far (p:=⟨xb,0,none⟩) (by simp only;omega) _).far (p:=⟨xb,1,none⟩) (by simp only;omega) _).cell,(((kx.nz HBQ.o).far (p:=⟨xb,0,none⟩) (by simp only;omega) _).far (p:=⟨xb,1,none⟩) (by simp only;omega) _).cell⟩) ?_;clear aH hK K;intro aH;(try simp only[zz]);refine dn1 ?_;(go_wp2_with fail);go_meet
    case rel=>
     refine ⟨xb,_,_,_,_,rfl,ax ((OF2.o.setT kBox (by decide) 0 _).setT (kBox.set_ 0 _) (by decide) 1 _),ax ((OB.o.setT kBox (by decide) 0 _).setT (kBox.set_ 0 _) (by decide) 1 _),?_,hxbb,ax ((HBQ.o.setCell (p:=⟨xb,0,none⟩) (by simp only;omega) _).setCell (p:=⟨xb,1,none⟩) (by simp only;omega) _)⟩;have:=(kBox.set_ 0 (.slice F2 (a.facts.length+1) e2)).set_ 1 (.slice G3 (a.atoms.length+1) e4);simpa using this
  case rest=>
   obtain ⟨xb,F2,e2,G2,e3,rfl,OF2,OB2,kb,hxb,HBC⟩:=hcut;have kE1:=kE.nz HBC.o;have HBw:=ax (bgo HB.o HBC.o);have hsc:=HBC.o.size;have OE:aJ (AsnO wc w.heap.size (.agg #[.slice F1 (a.facts.length+1) e1,.slice G1 (withoutL a.atoms i).length d1]) (emptyX a x i)):=ax ⟨_,_,rfl,OF.o.bz HBC.o,OR.o.bz HBC.o⟩;have OX:aJ (AsnO wc W.heap.size (.agg #[.slice F2 (a.facts.length+1) e2,.slice G2 (a.atoms.length+1) e3]) (fullX a x i (m:Int))):=ax ⟨_,_,rfl,OF2.o,OB2.o⟩;clear HBC kE kf OF OR k0 kx OF2 OB2 HB;(replace qkE1:=kE1.z);have hlb0:=kb.lt;(go_wp2_with fail);refine (c_impl_AssertionValid _ (emptyX a x i) _ (OE.o.reads.bz bel)).mono ?_;rintro e w6 ⟨rfl,hB6⟩;replace kE1:=kE1.nz hB6;replace kb:=kb.nz hB6;have HB6:=ax (bgo HBw.o hB6);have hs6:=hB6.size;replace OE:=ax (OE.o.bz hB6);replace OX:=ax (OX.o.bz hB6);clear hB6 HBw qkE1;cases hve:(emptyX a x i).valid
   ·have E:=ax (list_bad (n:=n) HNT.o (.inl hve));clear hve;(go_wp2_with fail);go_ret2;exact ⟨_,_,by rw[E.o];rfl,by rw[E.o];exact A2O.nil _ _,HB6.o⟩
   have HVE:=ax hve;clear hve;(replace qkb:=kb.z);(go_wp2_with fail);refine (c_impl_AssertionValid _ (fullX a x i (m:Int)) _ (OX.o.reads.bz bel)).mono ?_;rintro e w7 ⟨rfl,hB7⟩;replace kE1:=kE1.nz hB7;replace kb:=kb.nz hB7;have HB7:=ax (bgo HB6.o hB7);have hs7:=hB7.size;replace OE:=ax (OE.o.bz hB7);replace OX:=ax (OX.o.bz hB7);clear hB7 HB6 qkb;cases hvf:(fullX a x i (m:Int)).valid
   ·have E:=ax (list_bad (n:=n) HNT.o (.inr hvf));clear hvf;(go_wp2_with fail);go_ret2;exact ⟨_,_,by rw[E.o];rfl,by rw[E.o];exact A2O.nil _ _,HB7.o⟩
   have HVF:=ax hvf;clear hvf;(replace qkE1:=kE1.z);(go_wp2_with fail);refine (HEH.o w.heap.size _ _ _ OE.o.C (Nat.le_refl _) HVE.o).mono ?_;rintro e w8 ⟨r1,vs1,rfl,o1,hB8⟩;obtain ⟨R1,z1,rfl⟩:=o1.form;replace kb:=kb.nz hB8;have HB8:=ax (bgo HB7.o hB8);have hs8:=hB8.size;have O1:=ax o1;replace OX:=ax (OX.o.bz hB8);clear hB8 HB7 qkE1 kE1 o1 OE;cases he1:exposeF n (emptyX a x i) t Ks
   case none=>
    have E:=ax (list_first (n:=n) HNT.o he1);clear he1;(go_wp2_with fail);go_ret2;exact ⟨_,_,by rw[E.o];rfl,by rw[E.o];exact A2O.nil _ _,HB8.o⟩
   case some l1=>
   have HE1:=ax he1;rw[he1] at O1;clear he1;(replace qkb:=kb.z);(go_wp2_with fail);refine (HFH.o m w.heap.size _ _ _ (AsnO.C (OX.o.lower (by omega))) (Nat.le_refl _) HVF.o).mono ?_;rintro e w9 ⟨r2,vs2,rfl,o2,hB9⟩;obtain ⟨R2,z2,rfl⟩:=o2.form;have HB9:=ax (bgo HB8.o hB9);have hs9:=hB9.size;have HB9':=ax hB9;have O2:=ax o2;clear hB9 HB8 qkb kb o2 OX;cases he2:exposeF n (fullX a x i (m:Int)) t Ks
   case none=>
    have E:=ax (list_second (n:=n) HNT.o he2);clear he2;(go_wp2_with fail);go_ret2;exact ⟨_,_,by rw[E.o];rfl,by rw[E.o];exact A2O.nil _ _,HB9.o⟩
   case some l2=>
   have HE2:=ax he2;rw[he2] at O2;clear he2;simp only[Option.getD_some] at O1 O2 ⊢;have E:=ax (list_both (n:=n) HNT.o HE1.o HE2.o);have hl1:=(expose_ok HE1.o).1;have hl2:=(expose_ok HE2.o).1;have hll:l1.length+l2.length≤1049600:=by have:=HN.o;omega
   clear hl1 hl2;(go_wp2_with fail);refine (c_joinAs R1 R2 l1.length l2.length z1 z2 vs1 vs2 _ (O1.o.rd.bz HB9'.o) O2.o.rd O1.o.els.one_cell O2.o.els.one_cell hll).mono ?_;rintro e w10 ⟨r3,rfl,o3,hB10⟩;have O3:=ax o3;have HB10:=ax hB10;have HB11:=ax (bgo HB9.o hB10);obtain ⟨R3,z3,rfl,-⟩:=own_reads o3 hll;clear o3 hB10;(go_wp2_with fail);go_ret2;refine ⟨_,vs1++vs2,by rw[E.o];rfl,?_,HB11.o⟩;rw[E.o];exact A2O.join O1.o HB9'.o O2.o (Nat.le_refl _) HB10.o (by omega) (by omega) O3.o (by omega) hll
theorem c_impl_expose:∀ (n:Nat),n≤7→∀ (a:Asn) (t:Int) (K:Nat),K<512→a.atoms.length<n→ExpC n a t K
 | 0,_,a,_,_,_,h=>absurd h (Nat.not_lt_zero _)
 | n+1,hn,a,t,K,hK,h=>fun lo hi v w h1 h2 hv=>
  c_expose_step n a t K (fun i x _ _ hx hk himp=>by
   have hi:=(List.getElem?_eq_some_iff.1 hx).1;have hwl:=withoutL_len hi;refine c_exposeListAt n a x i t K hv hx hK (by omega) (c_impl_expose n (by omega) _ t K hK (by simp only[emptyX];omega)) fun m=>?_;obtain ⟨n',rfl⟩:∃ n',n=n'+1:=⟨n - 1,by omega⟩;intro lo hi v w g1 g2 gv
   exact c_expose_step n' _ t K (fun i' x' hf _ _ _ _=>by rw[full_find hx hk gv himp] at hf;cases hf) lo hi v w g1 g2 gv) lo hi v w h1 h2 hv
end
section
open Go Go.RowKit Go.Proofs
def forgetF (a:Asn) (x:Int) (K:Nat):Option (Asn×Int):=if (tset (termsL a)).testBit x.toNat then (newT (tset (termsL a)|||K)).map fun n=>(substA x (n:Int) a,(n:Int)) else some (a,x)
def setX (a:Asn) (x p t:Int):Asn:=⟨a.facts++[⟨true,x,swp x p t⟩],a.atoms⟩
def newX (a:Asn) (x:Int):Asn:=⟨a.facts,⟨1,x,0⟩ :: a.atoms⟩
def okX (a:Asn):Option Asn:=if a.valid then some a else none
def assignF (a:Asn) (x t:Int) (K:Nat):Option Asn:=(forgetF a x K).bind fun p=>okX (setX p.1 x p.2 t)
def cellNF (a:Asn) (x:Int) (K:Nat):Option Asn:=(forgetF a x K).bind fun p=>okX (newX p.1 x)
def head0 (a:Asn):Atm:=(a.atoms[0]?).getD default
def storeX (a:Asn) (B:Int):Asn:=⟨a.facts,a.atoms.set 0 ⟨(head0 a).kind,(head0 a).a,B⟩⟩
def freeX (a:Asn):Asn:=⟨a.facts,withoutL a.atoms 0⟩
def accF (k A B:Int) (a:Asn) (K:Nat):Option Asn:=if k=2 then assignF a A (head0 a).b K else if k=3 then some (storeX a B) else some (freeX a)
def mapF (f:Asn→Option Asn):List Asn→Option (List Asn)
 | []=>some []
 | x :: xs=>(f x).bind fun y=>(mapF f xs).map (y :: ·)
theorem mapF_none {f:Asn→Option Asn}:∀ {xs:List Asn} {k:Nat} (hk:k<xs.length),f xs[k]=none→mapF f xs=none
 | x :: xs,0,_,h=>by unfold mapF;rw[show f x=none from h];rfl
 | x :: xs,k+1,hk,h=>by
  unfold mapF;rw[mapF_none (xs:=xs) (k:=k) (by simpa using hk) h];cases f x<;>rfl
theorem mapF_some {f:Asn→Option Asn}:∀ {xs ys:List Asn},ys.length=xs.length→(∀ (k:Nat) (h:k<xs.length) (h':k<ys.length),f xs[k]=some ys[k])→mapF f xs=some ys
 | [],[],_,_=>rfl
 | [],_ :: _,h,_=>by simp at h
 | _ :: _,[],h,_=>by simp at h
 | x :: xs,y :: ys,hl,h=>by
  unfold mapF;rw[show f x=some y from h 0 (by simp) (by simp),mapF_some (xs:=xs) (ys:=ys) (by simpa using hl) fun k h1 h2=>h (k+1) (by simpa using h1) (by simpa using h2)];rfl
theorem mapF_spec {f:Asn→Option Asn}:∀ {xs ys:List Asn},mapF f xs=some ys→ys.length=xs.length∧∀ (k:Nat) (h:k<xs.length) (h':k<ys.length),f xs[k]=some ys[k]
 | [],ys,h=>by obtain rfl:=Option.some.inj h;exact ⟨rfl,fun k h=>absurd h (by simp)⟩
 | x :: xs,ys,h=>by
  unfold mapF at h;rw[Option.bind_eq_some_iff] at h;obtain ⟨y,h1,h2⟩:=h;rw[Option.map_eq_some_iff] at h2;obtain ⟨zs,h3,rfl⟩:=h2;obtain ⟨g1,g2⟩:=mapF_spec h3;refine ⟨by simp[g1],fun k k1 k2=>?_⟩
  cases k with
  | zero=>exact h1
  | succ k=>exact g2 k (by simpa using k1) (by simpa using k2)
def symT (k A B:Int):Int:=if k=2 then B else A
def symB (a:Asn) (k A B:Int) (K:Nat):Option (List Asn):=
 if k=1 then (if A=B then some [a] else (assignF a A B K).map fun x=>[x])
 else if k=4 then (cellNF a A K).map fun x=>[x]
 else (exposeF 7 a (symT k A B) K).bind fun l=>mapF (fun x=>accF k A B x K) l
def keepK (K:Nat) (A B:Int):Nat:=tins (tins K A) B
def symR (a:Asn) (ok:Bool) (k A B:Int) (ks:List Int):Option (List Asn):=if a.valid&&ok then symB a k A B (keepK (tset ks) A B) else none
theorem okX_ok {a b:Asn} (h:okX a=some b):b.valid=true∧b=a:=by
 unfold okX at h
 split at h
 ·rename_i hv;obtain rfl:=Option.some.inj h;exact ⟨hv,rfl⟩
 ·cases h
theorem assignF_ok {a b:Asn} {x t:Int} {K:Nat} (h:assignF a x t K=some b):b.valid=true:=by
 unfold assignF at h;obtain ⟨p,-,h⟩:=Option.bind_eq_some_iff.1 h;exact (okX_ok h).1
theorem cellF_ok {a b:Asn} {x:Int} {K:Nat} (h:cellNF a x K=some b):b.valid=true:=by
 unfold cellNF at h;obtain ⟨p,-,h⟩:=Option.bind_eq_some_iff.1 h;exact (okX_ok h).1
theorem storeX_ok {a:Asn} (hv:a.valid=true) {B:Int} (hB:isTermB B=true):(storeX a B).valid=true:=by
 unfold storeX;simp only[Asn.valid,Bool.and_eq_true,List.length_set] at hv ⊢;refine ⟨hv.1,hv.2.1,List.all_eq_true.2 fun y hy=>?_⟩
 cases e:a.atoms with
 | nil=>rw[e] at hy;simp at hy
 | cons z zs=>
  have hz:=List.all_eq_true.1 hv.2.2 z (by rw[e];simp);have e0:head0 a=z:=by unfold head0;rw[e];rfl
  rcases List.mem_or_eq_of_mem_set hy with hy|rfl
  ·exact List.all_eq_true.1 hv.2.2 y hy
  ·simp only[Atm.valid,e0,hB] at hz ⊢;simp at hz ⊢;exact hz.1
theorem freeX_ok {a:Asn} (hv:a.valid=true):(freeX a).valid=true:=by
 unfold freeX withoutL;simp only[Asn.valid,Bool.and_eq_true,decide_eq_true_eq,List.take_zero,List.nil_append,List.length_drop] at hv ⊢;exact ⟨hv.1,by omega,List.all_eq_true.2 fun y hy=>List.all_eq_true.1 hv.2.2 y (List.mem_of_mem_drop hy)⟩
theorem accF_ok {k A B:Int} {a b:Asn} {K:Nat} (hv:a.valid=true) (hB:k=3→isTermB B=true) (h:accF k A B a K=some b):b.valid=true:=by
 unfold accF at h
 split at h
 ·exact assignF_ok h
 ·split at h
  ·rename_i h3;obtain rfl:=Option.some.inj h;exact storeX_ok hv (hB h3)
  ·obtain rfl:=Option.some.inj h;exact freeX_ok hv
theorem symB_ok {a:Asn} {k A B:Int} {K:Nat} {l:List Asn} (hv:a.valid=true) (hB:k=3→isTermB B=true) (h:symB a k A B K=some l):l.length≤128∧∀ b∈l,b.valid=true:=by
 unfold symB at h
 split at h
 ·split at h
  ·obtain rfl:=Option.some.inj h;exact ⟨by simp,fun b hb=>by rw[List.mem_singleton.1 hb];exact hv⟩
  ·obtain ⟨x,hx,rfl⟩:=Option.map_eq_some_iff.1 h;exact ⟨by simp,fun b hb=>by rw[List.mem_singleton.1 hb];exact assignF_ok hx⟩
 ·split at h
  ·obtain ⟨x,hx,rfl⟩:=Option.map_eq_some_iff.1 h;exact ⟨by simp,fun b hb=>by rw[List.mem_singleton.1 hb];exact cellF_ok hx⟩
  ·obtain ⟨l0,h0,h⟩:=Option.bind_eq_some_iff.1 h;obtain ⟨g1,g2⟩:=mapF_spec h;have h1:=expose_ok h0;refine ⟨by rw[g1];exact h1.1,fun b hb=>?_⟩;obtain ⟨j,hj,rfl⟩:=List.mem_iff_getElem.1 hb;exact accF_ok (h1.2 _ (List.getElem_mem (by omega))) hB (g2 j (by omega) hj)
theorem symR_ok {a:Asn} {ok:Bool} {k A B:Int} {ks:List Int} (hB:ok=true→k=3→isTermB B=true):((symR a ok k A B ks).getD []).length≤128∧totA ((symR a ok k A B ks).getD [])≤16777216:=by
 cases h:symR a ok k A B ks with
 | none=>simp[totA,totR,rowsA]
 | some l=>
  have h':(a.valid&&ok)=true∧symB a k A B (keepK (tset ks) A B)=some l:=by
   unfold symR at h
   split at h
   ·rename_i hc;exact ⟨hc,h⟩
   ·cases h
  rw[Bool.and_eq_true] at h';have h1:=symB_ok h'.1.1 (hB h'.1.2) h'.2;have h2:l.length≤128:=h1.1;refine ⟨h2,?_⟩;have h3:=totA_le (n:=12) (m:=6) fun s hs=>valid_len (h1.2 s hs);simp only[Option.getD_some];omega
end
section
open Go Go.RowKit Go.Proofs
attribute [local go_sem ↓] Go.wp_at_zero Go.wp_at_succ
def wo (xs:List Atm) (i k:Int):Nat→List Atm
 | 0=>[]
 | j+1=>if (j:Int)=i∨(j:Int)=k then wo xs i k j else wo xs i k j++(xs[j]?).toList
theorem wo_skip {xs:List Atm} {i k:Int} {j:Nat} (h:(j:Int)=i∨(j:Int)=k):wo xs i k (j+1)=wo xs i k j:=by rw[wo,if_pos h]
theorem wo_take {xs:List Atm} {i k:Int} {j:Nat} (hj:j<xs.length) (h1:¬(j:Int)=i) (h2:¬(j:Int)=k):wo xs i k (j+1)=wo xs i k j++[xs[j]]:=by
 rw[wo,if_neg (by omega),List.getElem?_eq_getElem hj];rfl
theorem wo_one {xs:List Atm} {i:Nat} (hi:i<xs.length):wo xs i i xs.length=withoutL xs i:=by
 have key:∀ j,j≤xs.length→wo xs i i j=if j≤i then xs.take j else xs.take i++(xs.drop (i+1)).take (j - (i+1)):=by
  intro j
  induction j with
  | zero=>intro _;simp[wo]
  | succ j ih=>
   intro hj;have h:=ih (by omega);by_cases e:j=i
   ·subst e;rw[wo_skip (Or.inl rfl),h,if_pos (Nat.le_refl _),if_neg (by omega)];simp
   ·rw[wo_take (by omega) (by omega) (by omega),h];by_cases hlt:j≤i
    ·rw[if_pos hlt,if_pos (by omega),List.take_succ_eq_append_getElem (by omega)]
    ·rw[if_neg hlt,if_neg (by omega),List.append_assoc,show j+1 - (i+1)=(j - (i+1))+1 by omega];rw[List.take_succ_eq_append_getElem (by rw[List.length_drop];omega)];simp only[List.getElem_drop,show i+1+(j - (i+1))=j by omega]
 rw[key _ (Nat.le_refl _),if_neg (by omega)];unfold withoutL
 congr 1
 exact List.take_of_length_le (by rw[List.length_drop];omega)
theorem wp_appFL2 {o:Oper} {a:Act} {K:Act→World→Prop} {Q:Exit→Act→World→Prop} {w:World} {base lo hi c:Nat} {v:Value} {A:Option Addr} (s x:Operand) (ho:o.op=.call { callee:=.builtin .append,args:=#[s,x],argTypes:=#[33,33] })
  {xs ys:List Fct} (hs:a.eval s=v) (hown:FactsO w base v xs) (hx:a.eval x=.slice A ys.length c) (hR:FactsV w lo hi A ys) (hn:xs.length+ys.length≤1049600) (hb:base≤w.heap.size)
  (h:∀ A' c' w',FactsO w' base (.slice A' (xs++ys).length c') (xs++ys)→w.grownBy w' v.ownBlock→Below base w w'→K (a.put o.dst (.slice A' (xs++ys).length c')) w'):Oper.wp Tryz.prog o a w K Q:=by
 refine wp_appL s x 33 ho Tryz.underlying33 infoF rfl (by decide) (by decide) hs hown.1 hx hR.raw (encF_one _) hn hb ?_;intro v' w' h1 h2 h3;have hO:FactsO w' base v' (xs++ys):=⟨by rw[List.length_append,show encF (xs++ys)=encF xs++encF ys from List.flatMap_append];exact h1,by simp[Lim];omega⟩;obtain ⟨A',c',rfl,-⟩:=hO.reads;exact h A' c' w' hO h2 h3
theorem AtomsO.oneN2 (w:World) (x:Atm) {base:Nat} (hb:base≤w.heap.size):AtomsO (w.alloc (.cells #[.int .i64 x.kind,.int .i64 x.a,.int .i64 x.b] tA)) base (.slice (some ⟨w.heap.size,0,none⟩) 1 1) [x]:=
 ⟨own_of_blk (Blk.new w _ _) hb rfl (by intro j hj;match j,hj with|0,_=>rfl|1,_=>rfl|2,_=>rfl) (Nat.le_refl _) (by decide) rfl,by simp[Lim]⟩
theorem c_l6WithoutF {lo hi:Nat} (v:Value) (a:Asn) (i k:Int) (x:Atm) (w:World) (h:AsnV w lo hi v a) (hl1:a.facts.length≤1000) (hl2:a.atoms.length≤1000) :
  Calls Tryz.prog 218 #[v,.int .i64 i,.int .i64 k,.agg #[.int .i64 x.kind,.int .i64 x.a,.int .i64 x.b]] w fun e w'=>∃ r,e=.returned r∧AsnO w' w.heap.size r ⟨a.facts,[x]++wo a.atoms i k a.atoms.length⟩∧Below w.heap.size w w':=by
 obtain ⟨A1,c1,A2,c2,rfl,h1,h2⟩:=h;have H1:=ax h1;have H2:=ax h2;clear h1 h2;(go_enter Tryz.func218,Tryz.ntmps218);have k0:Blk (((w.alloc (.cells #[.slice A1 a.facts.length c1,.slice A2 a.atoms.length c2] tAs)).alloc (.cells #[.int .i64 x.kind,.int .i64 x.a,.int .i64 x.b] tA)).alloc (.cells #[.slice none 0 0,.slice none 0 0] tAs)) w.heap.size tAs #[.slice A1 a.facts.length c1,.slice A2 a.atoms.length c2]:=blks;have k1:Blk (((w.alloc (.cells #[.slice A1 a.facts.length c1,.slice A2 a.atoms.length c2] tAs)).alloc (.cells #[.int .i64 x.kind,.int .i64 x.a,.int .i64 x.b] tA)).alloc (.cells #[.slice none 0 0,.slice none 0 0] tAs)) (w.heap.size+1) tA #[.int .i64 x.kind,.int .i64 x.a,.int .i64 x.b]:=blks;have kr:Blk (((w.alloc (.cells #[.slice A1 a.facts.length c1,.slice A2 a.atoms.length c2] tAs)).alloc (.cells #[.int .i64 x.kind,.int .i64 x.a,.int .i64 x.b] tA)).alloc (.cells #[.slice none 0 0,.slice none 0 0] tAs)) (w.heap.size+2) tAs #[.slice none 0 0,.slice none 0 0]:=blks;have hB:Below w.heap.size w (((w.alloc (.cells #[.slice A1 a.facts.length c1,.slice A2 a.atoms.length c2] tAs)).alloc (.cells #[.int .i64 x.kind,.int .i64 x.a,.int .i64 x.b] tA)).alloc (.cells #[.slice none 0 0,.slice none 0 0] tAs)):=bel;(go_wp2_with fail);generalize (((w.alloc (.cells #[.slice A1 a.facts.length c1,.slice A2 a.atoms.length c2] tAs)).alloc (.cells #[.int .i64 x.kind,.int .i64 x.a,.int .i64 x.b] tA)).alloc (.cells #[.slice none 0 0,.slice none 0 0] tAs))=W at k0 k1 kr hB ⊢;refine wp_region_noPanic ?_;refine wp_region_held_drew (S:=(fun w'=>(∀ i,w'.cell? ⟨w.heap.size,i,none⟩=#[.slice A1 a.facts.length c1,.slice A2 a.atoms.length c2][i]?)∧(∀ i,w'.cell? ⟨w.heap.size+1,i,none⟩=#[.int .i64 x.kind,.int .i64 x.a,.int .i64 x.b][i]?))) (by kernel_rfl) (⟨k0.drew.cell,k1.drew.cell⟩) (fun aH=>?_);refine tk2 1 rfl aH (h:=tk2 2 rfl aH (h:=tk2 4 rfl aH (h:=?_)));(try simp only[zz])
 refine wpAnyH_par [0,3,5,6,7] #[true,true,true,true,true,true,true,true,false] 5 (by kernel_rfl) aH
  (fun a0 D a1 w'=>aJ (Below w.heap.size w w'∧Blk w' w.heap.size tAs #[.slice A1 a.facts.length c1,.slice A2 a.atoms.length c2]∧Blk w' (w.heap.size+1) tA #[.int .i64 x.kind,.int .i64 x.a,.int .i64 x.b]∧Blk w' (w.heap.size+2) tAs #[.slice none 0 0,.slice none 0 0])∧
   aJ ((dn D 3=true→dn D 0=true)∧(dn D 6=true→dn D 3=true∧dn D 5=true))∧
   ∃ v11 v14 v16 v17 v9,a1=((((a0.put (some 11) v11).put (some 14) v14).put (some 16) v16).put (some 17) v17).put (some 9) v9∧
    aJ (dn D 0=true→dn D 3=false→(∃ g,v11=.slice (some ⟨g,0,none⟩) 0 0)∧FactsO w' w.heap.size v11 [])∧
    aJ (dn D 3=true→(∃ A c,v14=.slice A a.facts.length c)∧FactsO w' w.heap.size v14 a.facts)∧
    aJ (dn D 5=true→(∃ g,v16=.slice (some ⟨g,0,none⟩) 1 1)∧AtomsO w' w.heap.size v16 [x])∧
    aJ (dn D 6=true→v17=.agg #[v14,v16])∧
    aJ (dn D 7=true→∃ g,v9=.pointer (some ⟨g,0,none⟩)∧w.heap.size+2<g∧Blk w' g tAs #[.slice none 0 0,.slice none 0 0])) ?start ?steps ?fin
 case start=>
  refine ⟨⟨hB.drew,k0.drew,k1.drew,kr.drew⟩,⟨fun h=>absurd h (by decide),fun h=>absurd h (by decide)⟩,undef,undef,undef,undef,undef,rfl,fun h=>absurd h (by decide),fun h=>absurd h (by decide),fun h=>absurd h (by decide),fun h=>absurd h (by decide),fun h=>absurd h (by decide)⟩
 case steps=>
  refine ParSteps.cons rfl (fun D a1 w' hu hd hI hS K' hK G hG=>?_) (ParSteps.cons rfl (fun D a1 w' hu hd hI hS K' hK G hG=>?_) (ParSteps.cons rfl (fun D a1 w' hu hd hI hS K' hK G hG=>?_) (ParSteps.cons rfl (fun D a1 w' hu hd hI hS K' hK G hG=>?_) (ParSteps.cons rfl (fun D a1 w' hu hd hI hS K' hK G hG=>?_) ParSteps.nil))))
  ·
   obtain ⟨HW,HC,v11,v14,v16,v17,v9,ha,h0,h3,h5,h6,h7⟩:=hI;rw[ha] at hG;clear ha a1;have u0:=dn_un hu;have u3:dn D 3=false:=by cases e:dn D 3;rfl;have:=HC.o.1 e;rw[u0] at this;cases this
   have HU:=ax u3;have U6:aJ (dn D 6=false):=by show _=_;cases e:dn D 6;rfl;have:=(HC.o.2 e).1;rw[u3] at this;cases this
   clear u0 u3;refine hG ?_;clear hG hd;(try simp only[zz]);go_simp;have hB2:Below w.heap.size w (w'.alloc (.cells #[] tF)):=HW.o.1.alloc HW.o.1.size _;have hBw:Below w'.heap.size w' (w'.alloc (.cells #[] tF)):=bbox (Below.refl _ _) _;refine hK.out _ _ ⟨(HW.o.2.1.alloc _).cell,(HW.o.2.2.1.alloc _).cell⟩ ⟨⟨hB2,HW.o.2.1.alloc _,HW.o.2.2.1.alloc _,HW.o.2.2.2.alloc _⟩,⟨fun h=>?_,fun h=>?_⟩,.slice (some ⟨w'.heap.size,0,none⟩) 0 0,v14,v16,v17,v9,rfl,?_,?_,?_,?_,?_⟩
   ·exact dn_self hu
   ·rw[dn_ne (by decide)] at h;rw[U6.o] at h;cases h
   ·exact fun _ _=>⟨⟨_,rfl⟩,(FactsO.empty w').lower HW.o.1.size⟩
   ·intro h;rw[dn_ne (by decide)] at h;rw[HU.o] at h;cases h
   ·intro h;rw[dn_ne (by decide)] at h;exact ⟨(h5.o h).1,(h5.o h).2.bz hBw⟩
   ·intro h;rw[dn_ne (by decide)] at h;rw[U6.o] at h;cases h
   ·intro h;rw[dn_ne (by decide)] at h;obtain ⟨g,e,hg,hk⟩:=h7.o h;exact ⟨g,e,hg,hk.alloc _⟩
  ·
   obtain ⟨HW,HC,v11,v14,v16,v17,v9,ha,h0,h3,h5,h6,h7⟩:=hI;rw[ha] at hG;clear ha a1;have u3:=dn_un hu;have t0:dn D 0=true:=hd ⟨0,.data⟩ (by simp) (by decide);obtain ⟨⟨y,rfl⟩,o⟩:=h0.o t0 u3;have HO:=ax o;have HU:=ax (And.intro u3 t0);have U6:aJ (dn D 6=false):=by show _=_;cases e:dn D 6;rfl;have:=(HC.o.2 e).1;rw[u3] at this;cases this
   clear u3 t0 o h0 hd;refine hG ?_;clear hG;(try simp only[zz]);rw[if_pos (by simp[Region.wanted])];refine wp_appFL2 (base:=w.heap.size) (xs:=[]) (ys:=a.facts) _ _ rfl rfl HO.o rfl (H1.o.bz HW.o.1) (by simp;omega) HW.o.1.size ?_;intro A' c' w2 o2 hg2 hB2;simp only[List.nil_append] at o2 ⊢;refine hK.out _ _ ⟨(Blk.grownO (hg:=hg2) HW.o.2.1 HO.o.1 (by decide)).cell,(Blk.grownO (hg:=hg2) HW.o.2.2.1 HO.o.1 (by decide)).cell⟩ ⟨⟨HW.o.1.trans hB2,Blk.grownO (hg:=hg2) HW.o.2.1 HO.o.1 (by decide),Blk.grownO (hg:=hg2) HW.o.2.2.1 HO.o.1 (by decide),Blk.grownO (hg:=hg2) HW.o.2.2.2 HO.o.1 (by decide)⟩,⟨fun h=>?_,fun h=>?_⟩,.slice (some ⟨y,0,none⟩) 0 0,.slice A' a.facts.length c',v16,v17,v9,rfl,?_,?_,?_,?_,?_⟩
   ·rw[dn_ne (by decide)];exact HU.o.2
   ·rw[dn_ne (by decide)] at h;rw[U6.o] at h;cases h
   ·intro _ h;rw[dn_self hu] at h;cases h
   ·exact fun _=>⟨⟨A',c',rfl⟩,o2⟩
   ·intro h;rw[dn_ne (by decide)] at h;exact ⟨(h5.o h).1,AtomsO.grownF (h5.o h).2 HO.o hg2⟩
   ·intro h;rw[dn_ne (by decide)] at h;rw[U6.o] at h;cases h
   ·intro h;rw[dn_ne (by decide)] at h;obtain ⟨g,e,hg,hk⟩:=h7.o h;exact ⟨g,e,hg,Blk.grownO (hg:=hg2) hk HO.o.1 (by decide)⟩
  ·
   obtain ⟨HW,HC,v11,v14,v16,v17,v9,ha,h0,h3,h5,h6,h7⟩:=hI;rw[ha] at hG;clear ha a1;have u5:=dn_un hu;have U6:aJ (dn D 6=false):=by show _=_;cases e:dn D 6;rfl;have:=(HC.o.2 e).2;rw[u5] at this;cases this
   clear u5;refine hG ?_;clear hG hd;(try simp only[zz]);go_simp;have hB2:Below w.heap.size w (w'.alloc (.cells #[.int .i64 x.kind,.int .i64 x.a,.int .i64 x.b] tA)):=HW.o.1.alloc HW.o.1.size _;have hBw:Below w'.heap.size w' (w'.alloc (.cells #[.int .i64 x.kind,.int .i64 x.a,.int .i64 x.b] tA)):=bbox (Below.refl _ _) _;refine hK.out _ _ ⟨(HW.o.2.1.alloc _).cell,(HW.o.2.2.1.alloc _).cell⟩ ⟨⟨hB2,HW.o.2.1.alloc _,HW.o.2.2.1.alloc _,HW.o.2.2.2.alloc _⟩,⟨fun h=>?_,fun h=>?_⟩,v11,v14,.slice (some ⟨w'.heap.size,0,none⟩) 1 1,v17,v9,rfl,?_,?_,?_,?_,?_⟩
   ·rw[dn_ne (by decide)] at h ⊢;exact HC.o.1 h
   ·rw[dn_ne (by decide)] at h;rw[U6.o] at h;cases h
   ·intro h h';rw[dn_ne (by decide)] at h h';exact ⟨(h0.o h h').1,(h0.o h h').2.bz hBw⟩
   ·intro h;rw[dn_ne (by decide)] at h;exact ⟨(h3.o h).1,(h3.o h).2.bz hBw⟩
   ·exact fun _=>⟨⟨_,rfl⟩,AtomsO.oneN2 w' x HW.o.1.size⟩
   ·intro h;rw[dn_ne (by decide)] at h;rw[U6.o] at h;cases h
   ·intro h;rw[dn_ne (by decide)] at h;obtain ⟨g,e,hg,hk⟩:=h7.o h;exact ⟨g,e,hg,hk.alloc _⟩
  ·
   obtain ⟨HW,HC,v11,v14,v16,v17,v9,ha,h0,h3,h5,h6,h7⟩:=hI;rw[ha] at hG;clear ha a1;have t3:dn D 3=true:=hd ⟨3,.data⟩ (by simp) (by decide);have t5:dn D 5=true:=hd ⟨5,.data⟩ (by simp) (by decide);have HT2:=ax (And.intro t3 t5);obtain ⟨⟨A,c,rfl⟩,o3⟩:=h3.o t3;obtain ⟨⟨y,rfl⟩,o5⟩:=h5.o t5;have HO3:=ax o3;have HO5:=ax o5;clear t3 t5 hd o3 o5 h3 h5;refine hG ?_;clear hG;(try simp only[zz]);go_simp;refine hK.out _ _ hS ⟨HW.o,⟨fun h=>?_,fun h=>?_⟩,v11,.slice A a.facts.length c,.slice (some ⟨y,0,none⟩) 1 1,.agg #[.slice A a.facts.length c,.slice (some ⟨y,0,none⟩) 1 1],v9,rfl,?_,?_,?_,?_,?_⟩
   ·rw[dn_ne (by decide)] at h ⊢;exact HC.o.1 h
   ·rw[dn_ne (by decide),dn_ne (by decide)];exact HT2.o
   ·intro h h';rw[dn_ne (by decide)] at h h';exact h0.o h h'
   ·exact fun _=>⟨⟨_,_,rfl⟩,HO3.o⟩
   ·exact fun _=>⟨⟨_,rfl⟩,HO5.o⟩
   ·exact fun _=>rfl
   ·intro h;rw[dn_ne (by decide)] at h;exact h7.o h
  ·
   obtain ⟨HW,HC,v11,v14,v16,v17,v9,ha,h0,h3,h5,h6,h7⟩:=hI;rw[ha] at hG;clear ha a1;refine hG ?_;clear hG hd;(try simp only[zz]);go_simp;have hB2:Below w.heap.size w (w'.alloc (.cells #[.slice none 0 0,.slice none 0 0] tAs)):=HW.o.1.alloc HW.o.1.size _;have hBw:Below w'.heap.size w' (w'.alloc (.cells #[.slice none 0 0,.slice none 0 0] tAs)):=bbox (Below.refl _ _) _;have hlt:=HW.o.2.2.2.lt;refine hK.out _ _ ⟨(HW.o.2.1.alloc _).cell,(HW.o.2.2.1.alloc _).cell⟩ ⟨⟨hB2,HW.o.2.1.alloc _,HW.o.2.2.1.alloc _,HW.o.2.2.2.alloc _⟩,⟨fun h=>?_,fun h=>?_⟩,v11,v14,v16,v17,.pointer (some ⟨w'.heap.size,0,none⟩),rfl,?_,?_,?_,?_,?_⟩
   ·rw[dn_ne (by decide)] at h ⊢;exact HC.o.1 h
   ·rw[dn_ne (by decide)] at h;rw[dn_ne (by decide),dn_ne (by decide)];exact HC.o.2 h
   ·intro h h';rw[dn_ne (by decide)] at h h';exact ⟨(h0.o h h').1,(h0.o h h').2.bz hBw⟩
   ·intro h;rw[dn_ne (by decide)] at h;exact ⟨(h3.o h).1,(h3.o h).2.bz hBw⟩
   ·intro h;rw[dn_ne (by decide)] at h;exact ⟨(h5.o h).1,(h5.o h).2.bz hBw⟩
   ·intro h;rw[dn_ne (by decide)] at h;exact h6.o h
   ·exact fun _=>⟨_,rfl,hlt,Blk.new _ _ _⟩
 case fin=>
  rintro a1 w4 aH ⟨HW,-,v11,v14,v16,v17,v9,rfl,-,h3,h5,h6,h7⟩;obtain rfl:=h6.o (by decide);obtain ⟨⟨A,c,rfl⟩,o3⟩:=h3.o (by decide);obtain ⟨⟨B,rfl⟩,o5⟩:=h5.o (by decide);obtain ⟨g,rfl,hg,kg⟩:=h7.o (by decide);have HO3:=ax o3;have HO5:=ax o5;have hBf:=HW.o.1;have k4:=HW.o.2.1;have k14:=HW.o.2.2.1;have kr4:=HW.o.2.2.2;clear h3 h5 h6 h7 o3 o5 k0 k1 kr hB HW;(try simp only[zz]);(replace qk4:=k4.z;replace qkr4:=kr4.z;replace qkg:=kg.z);refine rdc 8 rfl fun K hK=>?_;(try simp only[zz]);go_simp;refine hK.out _ _ (⟨((k4.far (p:=⟨g,0,none⟩) (by simp only;omega) _).far (p:=⟨g,1,none⟩) (by simp only;omega) _).cell,((k14.far (p:=⟨g,0,none⟩) (by simp only;omega) _).far (p:=⟨g,1,none⟩) (by simp only;omega) _).cell⟩) ?_;clear aH hK K;intro aH;(try simp only[zz]);refine dn1 ?_;have kg2:Blk ((w4.setCell ⟨g,0,none⟩ (.slice A a.facts.length c)).setCell ⟨g,1,none⟩ (.slice (some ⟨B,0,none⟩) 1 1)) g tAs #[.slice A a.facts.length c,.slice (some ⟨B,0,none⟩) 1 1]:=by simpa using (kg.set_ 0 (.slice A a.facts.length c)).set_ 1 (.slice (some ⟨B,0,none⟩) 1 1)
  have hB5:Below w.heap.size w ((w4.setCell ⟨g,0,none⟩ (.slice A a.facts.length c)).setCell ⟨g,1,none⟩ (.slice (some ⟨B,0,none⟩) 1 1)):=(hBf.setCell (p:=⟨g,0,none⟩) (by simp only;omega) _).setCell (p:=⟨g,1,none⟩) (by simp only;omega) _;have k5:=(k4.far (p:=⟨g,0,none⟩) (by simp only;omega) (.slice A a.facts.length c)).far (p:=⟨g,1,none⟩) (by simp only;omega) (.slice (some ⟨B,0,none⟩) 1 1);have kr5:=(kr4.far (p:=⟨g,0,none⟩) (by simp only;omega) (.slice A a.facts.length c)).far (p:=⟨g,1,none⟩) (by simp only;omega) (.slice (some ⟨B,0,none⟩) 1 1);have HF5:=ax ((HO3.o.setT kg (by decide) 0 (.slice A a.facts.length c)).setT (kg.set_ 0 _) (by decide) 1 (.slice (some ⟨B,0,none⟩) 1 1));have HA5:=ax ((HO5.o.setT kg (by decide) 0 (.slice A a.facts.length c)).setT (kg.set_ 0 _) (by decide) 1 (.slice (some ⟨B,0,none⟩) 1 1));clear HO3 HO5 hBf k4 k14 kr4 kg qk4 qkr4 qkg;generalize ((w4.setCell ⟨g,0,none⟩ (.slice A a.facts.length c)).setCell ⟨g,1,none⟩ (.slice (some ⟨B,0,none⟩) 1 1))=w5 at kg2 hB5 k5 kr5 HF5 HA5 ⊢;have HB5:=ax hB5;clear hB5;(go_wp2_with fail)
  go_loopw [10] (fun n wr=>∃ (j:Nat) (xs:List Atm) (A3:Option Addr) (c3:Nat),j≤a.atoms.length∧n=.int .i64 j∧xs.length≤j+1∧aJ (xs=[x]++wo a.atoms i k j)∧aJ (FactsO wr w.heap.size (.slice A a.facts.length c) a.facts)∧aJ (AtomsO wr w.heap.size (.slice A3 xs.length c3) xs)∧
   Blk wr w.heap.size tAs #[.slice A1 a.facts.length c1,.slice A2 a.atoms.length c2]∧Blk wr (w.heap.size+2) tAs #[.slice none 0 0,.slice none 0 0]∧Blk wr g tAs #[.slice A a.facts.length c,.slice A3 xs.length c3]∧aJ (Below w.heap.size w wr)) (fun n _=>a.atoms.length - (intOf n).toNat)
  case atStart=>exact ⟨0,[x],some ⟨B,0,none⟩,1,Nat.zero_le _,rfl,Nat.le_refl _,(by show _=_;rfl),HF5.o,HA5.o,k5,kr5,kg2,HB5.o⟩
  case round=>
   clear k5 kr5 kg2 HF5 HA5 HB5;obtain ⟨j,xs,A3,c3,hj,rfl,hxl,HXS,HF,HA,k0,kr,kg,HB⟩:=hrel;(replace qk0:=k0.z;replace qkr:=kr.cell;replace rkr:=kr.frozen;replace lkr:=kr.lt;replace qkg:=kg.z);have hsz:=HB.o.size;by_cases hlt:j<a.atoms.length
   ·have HX:=ax (H2.o.bz HB.o);obtain ⟨b,off,rfl,hbl⟩:=HX.o.blt hlt;have hji:(j:Int)<(a.atoms.length:Int):=by omega
    by_cases e1:(j:Int)=i
    ·have HXN:aJ (xs=[x]++wo a.atoms i k (j+1)):=ax (by rw[HXS.o,wo_skip (Or.inl e1)]);have e1':((j:Int) != i)=false:=by simpa using e1
     clear e1;(go_wp2_with fail)
     go_round
     case rel=>exact ⟨j+1,xs,A3,c3,by omega,by go_num,by omega,HXN,HF,HA,k0,kr,kg,HB⟩
     case measure=>simp[intOf];omega
    ·have e1':((j:Int) != i)=true:=by simpa using e1
     have HE1:=ax e1;clear e1;by_cases e2:(j:Int)=k
     ·have HXN:aJ (xs=[x]++wo a.atoms i k (j+1)):=ax (by rw[HXS.o,wo_skip (Or.inr e2)]);have e2':((j:Int) != k)=false:=by simpa using e2
      clear e2;(go_wp2_with fail)
      go_round
      case rel=>exact ⟨j+1,xs,A3,c3,by omega,by go_num,by omega,HXN,HF,HA,k0,kr,kg,HB⟩
      case measure=>simp[intOf];omega
     ·have HXN:aJ (xs++[a.atoms[j]]=[x]++wo a.atoms i k (j+1)):=ax (by rw[HXS.o,wo_take hlt HE1.o e2,List.append_assoc]);have e2':((j:Int) != k)=true:=by simpa using e2
      clear e2;(go_wp2_with fail);refine wp_region_noPanic ?_;refine wp_region_last' (S:=(fun w'=>(∀ i,w'.cell? ⟨g,i,none⟩=#[.slice A a.facts.length c,.slice A3 xs.length c3][i]?)∧(∀ i,w'.cell? ⟨w.heap.size,i,none⟩=#[.slice A1 a.facts.length c1,.slice (some ⟨b,off,none⟩) a.atoms.length c2][i]?)∧w'.cell? ⟨b,off+j * 3,none⟩=some (.int .i64 a.atoms[j].kind)∧w'.cell? ⟨b,off+j * 3+1,none⟩=some (.int .i64 a.atoms[j].a)∧w'.cell? ⟨b,off+j * 3+2,none⟩=some (.int .i64 a.atoms[j].b))) (by simp) (by kernel_rfl) (by kernel_rfl) (⟨Blk.cell blks,Blk.cell blks,(AtomsV.bz HX.o bel).cl hlt⟩) (fun aH=>?_);simp only[List.dropLast,List.getLast,nopOf,List.cons_append,List.nil_append,List.length_cons,List.length_nil,Nat.zero_add,Nat.reduceAdd];refine tk2 0 rfl aH (h:=tk2 1 rfl aH (h:=tk2 2 rfl aH (h:=?_)));(try simp only[zz]);refine tk2 3 rfl aH (h:=tk2 4 rfl aH (h:=tk2 5 rfl aH (h:=?_)));(try simp only[zz]);refine tk2 6 rfl aH (h:=?_);refine rdc 7 rfl fun K hK=>?_;(try simp only[zz]);go_simp;refine hK.out _ _ (⟨Blk.cell blks,Blk.cell blks,(AtomsV.bz HX.o bel).cl hlt⟩) ?_;clear aH hK K;intro aH;(try simp only[zz]);have hBX:Below w.heap.size w (wr.alloc (.cells #[.int .i64 a.atoms[j].kind,.int .i64 a.atoms[j].a,.int .i64 a.atoms[j].b] tA)).drew:=(Below.alloc HB.o hsz _).drew;have HAX:=ax (HA.o.bz (((Below.refl wr.heap.size wr).alloc (Nat.le_refl _) (.cells #[.int .i64 a.atoms[j].kind,.int .i64 a.atoms[j].a,.int .i64 a.atoms[j].b] tA)).drew));have HFX:=ax (HF.o.bz (((Below.refl wr.heap.size wr).alloc (Nat.le_refl _) (.cells #[.int .i64 a.atoms[j].kind,.int .i64 a.atoms[j].a,.int .i64 a.atoms[j].b] tA)).drew));have kl:=(Blk.new wr tA #[.int .i64 a.atoms[j].kind,.int .i64 a.atoms[j].a,.int .i64 a.atoms[j].b]).drew;have kgX:=(kg.alloc (.cells #[.int .i64 a.atoms[j].kind,.int .i64 a.atoms[j].a,.int .i64 a.atoms[j].b] tA)).drew;have k0X:=(k0.alloc (.cells #[.int .i64 a.atoms[j].kind,.int .i64 a.atoms[j].a,.int .i64 a.atoms[j].b] tA)).drew;have krX:=(kr.alloc (.cells #[.int .i64 a.atoms[j].kind,.int .i64 a.atoms[j].a,.int .i64 a.atoms[j].b] tA)).drew;clear kg k0 kr HA HF HX qk0 qkg qkr rkr lkr;generalize (wr.alloc (.cells #[.int .i64 a.atoms[j].kind,.int .i64 a.atoms[j].a,.int .i64 a.atoms[j].b] tA)).drew=V at hBX HAX HFX kl kgX k0X krX aH ⊢;have hszV:=hBX.size;generalize wr.heap.size=L at kl ⊢;clear hsz hbl HB;refine rdc 8 rfl fun K hK=>?_;skip;(refine stepAL (base:=w.heap.size) (xs:=xs) (ys:=[a.atoms[j]]) rfl _ _ rfl rfl HAX.o rfl (AtomsV.one' kl) (by simp;omega) hszV ?_;intro A' d' w2 of2 hg2 hB3;have z2:=Blk.grownO (hg:=hg2) kgX HAX.o.1 (by decide);have z0:=Blk.grownO (hg:=hg2) k0X HAX.o.1 (by decide);have hBw2:Below w.heap.size w w2:=hBX.trans hB3);refine hK.out _ _ (⟨z2.cell,z0.cell,(H2.o.bz hBw2).cl hlt⟩) ?_;clear aH hK K;intro aH;(try simp only[zz]);have rz2:=z2.frozen;have lz2:=z2.lt;refine tk2 9 rfl aH (h:=?_);(try simp only[zz]);refine rdc 10 rfl fun K hK=>?_;go_simp;refine hK.out _ _ (⟨z2.cell,z0.cell,(H2.o.bz hBw2).cl hlt⟩) (fun aH=>?_);clear hK K;refine wpAnyH_done (by kernel_rfl) ?_ _;unfold lastQ;go_simp;refine NoPanic.normal ?_;have zr:=Blk.grownO (hg:=hg2) krX HAX.o.1 (by decide);(go_wp2_with fail);have of3:=of2.setT z2 (by decide) 1 (.slice A' (xs.length+1) d')
      go_round
      case rel=>exact ⟨j+1,xs++[a.atoms[j]],A',d',by omega,by go_num,by simp;omega,HXN,(FactsO.grownA HFX.o HAX.o hg2).setT z2 (by decide) _ _,of3,z0.far (by simp only[];omega) _,zr.far (by simp only[];omega) _,(by have:=z2.set_ 1 (.slice A' (xs.length+1) d');simpa using this),hBw2.setCell (p:=⟨g,1,none⟩) (by simp only;omega) _⟩
      case measure=>simp[intOf];omega
   ·obtain rfl:j=a.atoms.length:=by omega
    have hne:g≠w.heap.size+2:=by omega
    (go_wp2_with fail);refine bodyPost_ret (v:=.agg #[.slice A a.facts.length c,.slice A3 xs.length c3]) (by simp[results,Tryz.results218,go_sem,qkr]) rfl ⟨_,rfl,⟨_,_,rfl,?_,?_⟩,?_⟩
    ·exact (HF.o.setT kr (by decide) 0 _).setT (kr.set_ 0 _) (by decide) 1 _
    ·rw[HXS.o] at HA ⊢;exact (HA.o.setT kr (by decide) 0 _).setT (kr.set_ 0 _) (by decide) 1 _
    ·exact (HB.o.setCell (p:=⟨w.heap.size+2,0,none⟩) (by simp only;omega) _).setCell (p:=⟨w.heap.size+2,1,none⟩) (by simp only;omega) _
end
section
open Go Go.RowKit Go.Proofs
end
end Go.Proofs.YtgdfdmjnadnlnaaGreat
