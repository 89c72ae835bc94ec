/- What the reader draws: an assertion that another one often entails. -/
import Derived.Test.YtjaohekkmlkinaaGreatMDrawG
import Derived.BigQuiet
import Derived.Deep.RegionHeld3
import Derived.Deep.QuietTactic
import Derived.Deep.DeepCutAuto
set_option linter.unusedSimpArgs false
set_option linter.unusedVariables false
set_option maxRecDepth 100000
set_option maxHeartbeats 25600000
namespace Go.Proofs.YtjaohekkmlkinaaGreat
section
open Go Go.RowKit Go.Proofs
attribute [local go_sem ↓] Go.wp_at_zero Go.wp_at_succ
theorem encA_setK {fs:List Atm} {k:Nat} (hk:k<fs.length) (v:Int):encA (fs.set k ⟨v,fs[k].a,fs[k].b⟩)=(encA fs).set (k*3) (.int .i64 v):=by
 obtain ⟨t0,t1,t2⟩:=flat3 (fun f:Atm=>.int .i64 f.kind) (fun f=>.int .i64 f.a) (fun f=>.int .i64 f.b) fs k hk;rw[encA,flat3_set _ _ _ _ _ _ hk];have e1:(((fs.flatMap fun x:Atm=>[Value.int .i64 x.kind,.int .i64 x.a,.int .i64 x.b]).set (k*3) (.int .i64 v)))[k*3+1]? = some (.int .i64 fs[k].a):=by rw[List.getElem?_set_ne (by omega)];exact t1
 have e2:(((fs.flatMap fun x:Atm=>[Value.int .i64 x.kind,.int .i64 x.a,.int .i64 x.b]).set (k*3) (.int .i64 v)))[k*3+2]? = some (.int .i64 fs[k].b):=by rw[List.getElem?_set_ne (by omega)];exact t2
 rw[set_same e1,set_same e2]
theorem Rd.tailF {w:World} {lo hi gf:Nat} {f:Fct} {ft:List Fct} (h:FactsV w lo hi (some ⟨gf,0,none⟩) (f :: ft)):FactsV w lo hi (some ⟨gf,3,none⟩) ft:=by
 refine ⟨⟨by have:=h.raw.1;simp[encF] at this ⊢;omega,fun hn=>?_⟩,by have:=h.lim;unfold Lim at this ⊢;simp at this;omega⟩;obtain ⟨b,o,e,h1,h2,hc⟩:=h.raw.2 (by simp);simp only[Option.some.injEq,Addr.mk.injEq,and_true] at e;obtain ⟨rfl,rfl⟩:=e;refine ⟨gf,3,rfl,h1,h2,fun j u hu=>?_⟩;have:=hc (3+j) u (by rw[show encF (f :: ft)=[.bool f.eq,.int .i64 f.a,.int .i64 f.b]++encF ft from rfl,List.getElem?_append_right (by simp)];simpa using hu);simpa using this
theorem Rd.tailA {w:World} {lo hi gf:Nat} {f:Atm} {ft:List Atm} (h:AtomsV w lo hi (some ⟨gf,0,none⟩) (f :: ft)):AtomsV w lo hi (some ⟨gf,3,none⟩) ft:=by
 refine ⟨⟨by have:=h.raw.1;simp[encA] at this ⊢;omega,fun hn=>?_⟩,by have:=h.lim;unfold Lim at this ⊢;simp at this;omega⟩;obtain ⟨b,o,e,h1,h2,hc⟩:=h.raw.2 (by simp);simp only[Option.some.injEq,Addr.mk.injEq,and_true] at e;obtain ⟨rfl,rfl⟩:=e;refine ⟨gf,3,rfl,h1,h2,fun j u hu=>?_⟩;have:=hc (3+j) u (by rw[show encA (f :: ft)=[.int .i64 f.kind,.int .i64 f.a,.int .i64 f.b]++encA ft from rfl,List.getElem?_append_right (by simp)];simpa using hu);simpa using this
def FRel (F0:Option Addr) (fs0:List Fct) (FA:Option Addr) (fs:List Fct):Prop:=(FA=F0∧fs=fs0)∨(∃ gf f,F0=some ⟨gf,0,none⟩∧FA=some ⟨gf,3,none⟩∧fs0=f :: fs)∨fs=[]
theorem FRel.rj {w:World} {base:Nat} {F0 FA:Option Addr} {fs0 fs:List Fct} {e0:Nat} (h:FRel F0 fs0 FA fs) (ho:FactsO w base (.slice F0 fs0.length e0) fs0):FactsV w base w.heap.size FA fs:=by
 have hr:=(ho.readsI).2;rcases h with ⟨rfl,rfl⟩|⟨gf,f,rfl,rfl,rfl⟩|rfl
 ·exact hr
 ·exact Rd.tailF hr
 ·exact Rd.nil _ _ _ _ _
theorem AtomsO.reads2 {w:World} {base n c:Nat} {A:Option Addr} {fs:List Atm} (h:AtomsO w base (.slice A n c) fs):AtomsV w base w.heap.size A fs:=(h.readsI).2
theorem AtomsO.capL {w:World} {b n c:Nat} {A:Option Addr} {fs:List Atm} (h:AtomsO w b (.slice A n c) fs):n≤c:=by
 rcases h.1.2 with ⟨e,-⟩|⟨k,cap,cur,e,-,-,hn,-⟩
 ·injection e with e1 e2 e3;omega
 ·injection e with e1 e2 e3;omega
theorem FactsO.capL {w:World} {b n c:Nat} {A:Option Addr} {fs:List Fct} (h:FactsO w b (.slice A n c) fs):n≤c:=by
 rcases h.1.2 with ⟨e,-⟩|⟨k,cap,cur,e,-,-,hn,-⟩
 ·injection e with e1 e2 e3;omega
 ·injection e with e1 e2 e3;omega
theorem c_l6Weak {lo hi:Nat} (g p:Nat) (v:Value) (a:Asn) (w:World) (h:Rdr w g p) (hp:p≤999000) (ha:AsnV w lo hi v a) (hl1:a.facts.length≤20) (hl2:a.atoms.length≤20) :
  Calls Tryz.prog 101 #[.pointer (some ⟨g,0,none⟩),v] w fun e w'=>∃ r x q,e=.returned r∧AsnV w' w.heap.size w'.heap.size r x∧x.facts.length≤20∧x.atoms.length≤20∧Rdr w' g q∧q≤p+10∧Fr g w w':=by
 have H:=ax h;have hlt:=h.lt;have hV:=ax ha;obtain ⟨A1,c1,A2,c2,rfl,-,-⟩:=ha;clear h;(go_enter Tryz.func101,Tryz.ntmps101);obtain ⟨k0,k1⟩:=blk2 w tAs tAs #[.slice A1 a.facts.length c1,.slice A2 a.atoms.length c2] #[.slice none 0 0,.slice none 0 0];(go_wp2_with fail);refine (c_l3Copy _ a _ (hV.o.bz bel)).mono ?_;rintro e w1 ⟨r1,rfl,o1,hB1⟩;have hB:=bgo (w:=w) bel hB1;have hz1:w.heap.size+2≤w1.heap.size:=by have:=hB1.size;simp at this;omega
 replace o1:=o1.bq (base':=w.heap.size) (by simp;omega);replace k1:=k1.nz hB1;obtain ⟨fv,av,rfl,of,oa⟩:=o1;obtain ⟨F,e1,rfl,-⟩:=of.rj;obtain ⟨G,d1,rfl,-⟩:=oa.rj;obtain ⟨X,hX⟩:∃ X,X=w1.heap.size:=⟨_,rfl⟩;have kx:Blk (w1.alloc (.cells #[.slice F a.facts.length e1,.slice G a.atoms.length d1] tAs)) X tAs #[.slice F a.facts.length e1,.slice G a.atoms.length d1]:=by rw[hX];exact Blk.new _ _ _
 have hBx:Below w1.heap.size w1 (w1.alloc (.cells #[.slice F a.facts.length e1,.slice G a.atoms.length d1] tAs)):=bbox (Below.refl _ _) _;have HO1:=ax (of.bz hBx);have HO2:=ax (oa.bz hBx);have HF1:aJ (Fr g w (w1.alloc (.cells #[.slice F a.facts.length e1,.slice G a.atoms.length d1] tAs))):=(Fr.ofBelow hB).go hBx;have HR1:aJ (Rdr (w1.alloc (.cells #[.slice F a.facts.length e1,.slice G a.atoms.length d1] tAs)) g p):=(H.o.bz hB).bz hBx;replace k1:=k1.alloc (.cells #[.slice F a.facts.length e1,.slice G a.atoms.length d1] tAs);have hXw:w.heap.size+2≤X:=by omega
 clear hB1 hB of oa hBx H k0;(go_wp2_with fail);rw[←hX];generalize (w1.alloc (.cells #[.slice F a.facts.length e1,.slice G a.atoms.length d1] tAs))=W1 at k1 kx HO1 HO2 HF1 HR1 ⊢;clear hX hz1;refine (c_pick g p 3 _ HR1.o (by omega)).mono ?_;rintro e w2 ⟨m,rfl,hm,hR,hF⟩;have k12:=k1.fr hF (by omega);have kx2:=kx.fr hF (by omega);have HF2:=ax (HF1.o.trans hF);have HR2:=ax hR;have P1:=ax (HO1.o.fr hF hlt);have P2:=ax (HO2.o.fr hF hlt);have hm2:m≤2:=by omega
 clear hR hF hm HO1 HO2 HF1 HR1 k1 kx;(go_wp2_with fail)
 go_loopw [6] (fun i wr=>∃ (k:Nat) (fs:List Fct) (xs:List Atm) (F:Option Addr) (e:Nat) (G:Option Addr) (d:Nat),i=.int .i64 k∧k≤2∧fs.length≤20∧xs.length≤20∧aJ (FactsO wr w.heap.size (.slice F fs.length e) fs)∧aJ (AtomsO wr w.heap.size (.slice G xs.length d) xs)∧Blk wr (w.heap.size+1) tAs #[.slice none 0 0,.slice none 0 0]∧Blk wr X tAs #[.slice F fs.length e,.slice G xs.length d]∧aJ (Rdr wr g (p+1))∧aJ (Fr g w wr)) (fun i _=>(intOf i).toNat)
 case atStart=>exact ⟨m,a.facts,a.atoms,F,e1,G,d1,rfl,hm2,hl1,hl2,P1,P2,k12,kx2,HR2.o,HF2.o⟩
 case round=>
  clear k12 kx2 P1 P2 HR2 HF2 hm2;obtain ⟨k,fs,xs,F,e1,G,d1,rfl,hk2,hfl,hxl,HO1,HO2,k1,kx,HR,HF⟩:=hrel;(replace qk1:=k1.cell;replace rk1:=k1.frozen;replace lk1:=k1.lt;replace qkx:=kx.cell;replace rkx:=kx.frozen;replace lkx:=kx.lt);have hsz:=HF.o.size;by_cases hk:0<k
  ·have hki:(0:Int)<(k:Int):=by omega
   have HAV:aJ (AsnV wr w.heap.size wr.heap.size (.agg #[.slice F fs.length e1,.slice G xs.length d1]) ⟨fs,xs⟩):=AsnO.rj ⟨_,_,rfl,HO1.o,HO2.o⟩;(go_wp2_with fail);refine (c_FoldCells _ ⟨fs,xs⟩ _ HAV.o).mono ?_;rintro e w3 ⟨r3,y,ok,rfl,o3,hy1,hy2,hB3⟩;have k13:=k1.nz hB3;have kx3:=kx.nz hB3;have HF3:=ax (HF.o.go hB3);have HR3:=ax (HR.o.bz hB3);have Q1:=ax (HO1.o.bz hB3);have Q2:=ax (HO2.o.bz hB3);replace o3:=o3.bq (base':=w.heap.size) hsz;obtain ⟨fv,av,rfl,of,oa⟩:=o3;obtain ⟨F3,e3,rfl,-⟩:=of.rj;obtain ⟨G3,d3,rfl,-⟩:=oa.rj;have lkx3:=kx3.lt;have lk13:=k13.lt;have S1:=ax of;have S2:=ax oa;have hwx:w.heap.size≤X:=by omega
   clear hB3 of oa HO1 HO2 HF HR k1 kx HAV qk1 rk1 lk1 qkx rkx lkx;have hne:w3.heap.size≠X:=by omega
   have hsz3:=HF3.o.size;(replace qk13:=k13.cell;replace rk13:=k13.frozen;replace lk13:=k13.lt;replace qkx3:=kx3.cell;replace rkx3:=kx3.frozen;replace lkx3:=kx3.lt);cases ok
   ·go_wp2_with fail
    go_round
    case rel=>exact ⟨k - 1,fs,xs,F,e1,G,d1,by go_num,by omega,hfl,hxl,Q1.o.bz (bbox (Below.refl _ _) _),Q2.o.bz (bbox (Below.refl _ _) _),k13.alloc _,kx3.alloc _,HR3.o.bz (bbox (Below.refl _ _) _),HF3.o.go (bbox (Below.refl _ _) _)⟩
    case measure=>simp[intOf];omega
   ·go_wp2_with fail
    go_round
    case rel=>exact ⟨k - 1,y.facts,y.atoms,F3,e3,G3,d3,by go_num,by omega,hy1,hy2,((S1.o.setT kx3 (by decide) 0 _).setT (kx3.set_ 0 _) (by decide) 1 _).bz (bbox (Below.refl _ _) _),((S2.o.setT kx3 (by decide) 0 _).setT (kx3.set_ 0 _) (by decide) 1 _).bz (bbox (Below.refl _ _) _),((k13.far (p:=⟨X,0,none⟩) (by simp only;omega) _).far (p:=⟨X,1,none⟩) (by simp only;omega) _).alloc _,Blk.alloc (by simpa using (kx3.set_ 0 (.slice F3 y.facts.length e3)).set_ 1 (.slice G3 y.atoms.length d3)) _,((HR3.o.set_ (q:=⟨X,0,none⟩) (by simp only;omega) _).set_ (q:=⟨X,1,none⟩) (by simp only;omega) _).bz (bbox (Below.refl _ _) _),((HF3.o.set_ (p:=⟨X,0,none⟩) (Or.inr hwx) _).set_ (p:=⟨X,1,none⟩) (Or.inr hwx) _).go (bbox (Below.refl _ _) _)⟩
    case measure=>simp[intOf];omega
  ·obtain rfl:k=0:=by omega
   clear hk hk2;obtain ⟨q,hq0⟩:∃ q,q=p+1:=⟨_,rfl⟩;rw[←hq0] at HR;have hq:q≤p+1:=by omega
   have HFO:=HO1;clear hq0 HO1 hsz;by_cases hf:fs.length=0
   ·have hf0:¬(0:Int)<(fs.length:Int):=by omega
    clear hf;have HREL:aJ (FRel F fs F fs):=Or.inl ⟨rfl,rfl⟩;by_cases hx0:xs.length=0
    ·have hx0i:¬(0:Int)<(xs.length:Int):=by omega
     have hx1i:¬(1:Int)<(xs.length:Int):=by omega
     clear hx0;have hne:X≠w.heap.size+1:=by omega
     go_wp2_with fail
     first
     | (refine bodyPost_ret (v:=.agg #[.slice F fs.length e1,.slice G xs.length d1]) (by simp[results,Tryz.results101,go_sem,qk1]) rfl ⟨_,rfl,⟨fs,xs⟩,⟨F,e1,G,d1,rfl,?_,?_⟩,hfl,hxl,q,?_,by omega,?_⟩)
     | (refine bodyPost_ret (v:=.agg #[.slice F fs.length e1,.slice G xs.length d1]) (by simp[results,Tryz.results101,go_sem,qk1]) rfl ⟨_,⟨fs,xs⟩,q,rfl,⟨F,e1,G,d1,rfl,?_,?_⟩,hfl,hxl,?_,by omega,?_⟩)
     ·exact HREL.o.rj ((HFO.o.setT k1 (by decide) 0 _).setT (k1.set_ 0 _) (by decide) 1 _)
     ·exact ((((HO2.o.setT k1 (by decide) 0 _).setT (k1.set_ 0 _) (by decide) 1 _)).readsI).2
     ·exact (HR.o.set_ (q:=⟨w.heap.size+1,0,none⟩) (by simp only;omega) _).set_ (q:=⟨w.heap.size+1,1,none⟩) (by simp only;omega) _
     ·exact (HF.o.set_ (p:=⟨w.heap.size+1,0,none⟩) (Or.inr (by simp only;omega)) _).set_ (p:=⟨w.heap.size+1,1,none⟩) (Or.inr (by simp only;omega)) _
    have hx0i:(0:Int)<(xs.length:Int):=by omega
    (go_wp2_with fail);refine (c_pick g q 3 _ HR.o (by omega)).mono ?_;rintro e w6 ⟨m6,rfl,hm6,hR,hF⟩;replace k1:=k1.fr hF (by omega);replace kx:=kx.fr hF (by omega);replace HF:=ax (HF.o.trans hF);replace HFO:=ax (HFO.o.fr hF hlt);replace HO2:=ax (HO2.o.fr hF hlt);replace HR:=ax hR;replace hq:q+1≤p+2:=by omega
    generalize q+1=q at HR hq;clear hR hF;(replace qk1:=k1.cell;replace rk1:=k1.frozen;replace lk1:=k1.lt;replace qkx:=kx.cell;replace rkx:=kx.frozen;replace lkx:=kx.lt);by_cases hm60:(m6:Int)=0
    ·have hm6b:((m6:Int) == 0)=true:=by simpa using hm60
     clear hm60 hm6;(go_wp2_with fail);refine (c_pick g q (xs.length:Int) _ HR.o (by omega)).mono ?_;rintro e w7 ⟨m7,rfl,hm7,hR,hF⟩;replace k1:=k1.fr hF (by omega);replace kx:=kx.fr hF (by omega);replace HF:=ax (HF.o.trans hF);replace HFO:=ax (HFO.o.fr hF hlt);replace HO2:=ax (HO2.o.fr hF hlt);replace HR:=ax hR;replace hq:q+1≤p+3:=by omega
     generalize q+1=q at HR hq;clear hR hF;(replace qk1:=k1.cell;replace rk1:=k1.frozen;replace lk1:=k1.lt;replace qkx:=kx.cell;replace rkx:=kx.frozen;replace lkx:=kx.lt);have hm7l:m7<xs.length:=by omega
     obtain ⟨ga,cur,-,rfl,hga,kg,hsz3,hc0,hc1,hc2,hset⟩:=HO2.o.open_ (k:=m7) hm7l;have qg:=(kg.cell (m7 * 3)).trans hc0;have rg:=kg.frozen;have lg:=kg.lt;obtain ⟨ok,hok⟩:∃ ok,ok=(xs[m7]'hm7l).kind:=⟨_,rfl⟩;rw[←hok] at qg;have hm7i:(m7:Int)<(xs.length:Int):=by omega
     have hxg:X≠ga:=kx.ne_ kg (by decide);have h1g:w.heap.size+1≠ga:=k1.ne_ kg (by decide);clear hc0 hc1 hc2 hok hsz3 hm7;obtain ⟨ys,hys⟩:∃ ys,ys=xs.set m7 ⟨2,(xs[m7]'hm7l).a,(xs[m7]'hm7l).b⟩:=⟨_,rfl⟩;have hyl:ys.length=xs.length:=by rw[hys];simp
     have E0:=hset (m7 * 3) (.int .i64 2) ys (by rw[hys];exact encA_setK hm7l 2) hyl;rw[←hyl] at E0 kx hm7i hxl hx0i;have hga0:=kg;clear hset HO2 hys;have HO2:=ax E0;clear E0;replace HFO:=ax (HFO.o.setT kg (by decide) (m7 * 3) (.int .i64 2));replace HR:=ax (HR.o.set_ (q:=⟨ga,m7 * 3,none⟩) (by simp only;omega) (.int .i64 2));replace HF:=ax (HF.o.set_ (p:=⟨ga,m7 * 3,none⟩) (Or.inr hga) (.int .i64 2));(replace qk1:=k1.cell;replace rk1:=k1.frozen;replace lk1:=k1.lt;replace qkx:=kx.cell;replace rkx:=kx.frozen;replace lkx:=kx.lt);have qk17:=qk1;have qkx7:=qkx;have lk17:=lk1;have lkx7:=lkx;have rk17:=rk1;have rkx7:=rkx;replace k1:=k1.far (p:=⟨ga,m7 * 3,none⟩) h1g (.int .i64 2);replace kx:=kx.far (p:=⟨ga,m7 * 3,none⟩) hxg (.int .i64 2);have hgx:ga≠X:=fun e=>hxg e.symm;have hg1:ga≠w.heap.size+1:=fun e=>h1g e.symm;clear hyl hx0 hm7l;by_cases hx1:ys.length≤1
     ·have hx1i:¬(1:Int)<(ys.length:Int):=by omega
      have hne:X≠w.heap.size+1:=by omega
      go_wp2_with fail
      first
      | (refine bodyPost_ret (v:=.agg #[.slice F fs.length e1,.slice (some ⟨ga,0,none⟩) ys.length d1]) (by simp[results,Tryz.results101,go_sem,qk17,lk17,h1g,hg1]) rfl ⟨_,rfl,⟨fs,ys⟩,⟨F,e1,(some ⟨ga,0,none⟩),d1,rfl,?_,?_⟩,hfl,hxl,q,?_,by omega,?_⟩)
      | (refine bodyPost_ret (v:=.agg #[.slice F fs.length e1,.slice (some ⟨ga,0,none⟩) ys.length d1]) (by simp[results,Tryz.results101,go_sem,qk17,lk17,h1g,hg1]) rfl ⟨_,⟨fs,ys⟩,q,rfl,⟨F,e1,(some ⟨ga,0,none⟩),d1,rfl,?_,?_⟩,hfl,hxl,?_,by omega,?_⟩)
      ·exact HREL.o.rj ((HFO.o.setT k1 (by decide) 0 _).setT (k1.set_ 0 _) (by decide) 1 _)
      ·exact ((((HO2.o.setT k1 (by decide) 0 _).setT (k1.set_ 0 _) (by decide) 1 _)).readsI).2
      ·exact (HR.o.set_ (q:=⟨w.heap.size+1,0,none⟩) (by simp only;omega) _).set_ (q:=⟨w.heap.size+1,1,none⟩) (by simp only;omega) _
      ·exact (HF.o.set_ (p:=⟨w.heap.size+1,0,none⟩) (Or.inr (by simp only;omega)) _).set_ (p:=⟨w.heap.size+1,1,none⟩) (Or.inr (by simp only;omega)) _
     have hx1i:(1:Int)<(ys.length:Int):=by omega
     (go_wp2_with fail);refine (c_pick g q 3 _ HR.o (by omega)).mono ?_;rintro e w8 ⟨m8,rfl,hm8,hR,hF⟩;replace k1:=k1.fr hF (by omega);replace kx:=kx.fr hF (by omega);replace HF:=ax (HF.o.trans hF);replace HFO:=ax (HFO.o.fr hF hlt);replace HO2:=ax (HO2.o.fr hF hlt);replace HR:=ax hR;replace hq:q+1≤p+4:=by omega
     generalize q+1=q at HR hq;clear hR hF;(replace qk1:=k1.cell;replace rk1:=k1.frozen;replace lk1:=k1.lt;replace qkx:=kx.cell;replace rkx:=kx.frozen;replace lkx:=kx.lt);by_cases hm80:(m8:Int)=0
     ·have hm8b:((m8:Int) == 0)=true:=by simpa using hm80
      clear hm80 hm8
      obtain ⟨x0,tl,rfl⟩:∃ x0 tl,ys=x0 :: tl:=by
       cases ys with
       | nil=>simp at hx1i
       | cons x0 tl=>exact ⟨x0,tl,rfl⟩
      have hcap:(x0 :: tl).length≤d1:=AtomsO.capL HO2.o;have hd1:1<d1:=by simp at hcap hx1i;omega
      have hd2:¬d1 - 1=0:=by omega
      have hd3:d1≠1:=by omega
      have hti:(0:Int)<(tl.length:Int)+1:=by omega
      have hti1:(1:Int)≤(tl.length:Int)+1:=by omega
      have htl:tl.length≤19:=by simp at hxl;omega
      have HXV:=ax (HO2.o.readsI).2;have hc3:=HXV.o.cl (k:=0) (by simp);obtain ⟨z0,z1,z2⟩:=hc3;simp only[Nat.zero_mul,Nat.add_zero,Nat.zero_add,List.getElem_cons_zero] at z0 z1 z2;clear hcap;(go_wp2_with fail);refine wp_region_noPanic ?_;refine wp_region_last' (S:=(fun w'=>(∀ i,w'.cell? ⟨X,i,none⟩=#[.slice F fs.length e1,.slice (some ⟨ga,0,none⟩) (x0 :: tl).length d1][i]?)∧w'.cell? ⟨ga,0,none⟩=some (.int .i64 x0.kind)∧w'.cell? ⟨ga,1,none⟩=some (.int .i64 x0.a)∧w'.cell? ⟨ga,2,none⟩=some (.int .i64 x0.b))) (by simp) (by kernel_rfl) (by kernel_rfl) (⟨Blk.cell blks,z0,z1,z2⟩) (fun aH=>?_);simp only[List.dropLast,List.getLast,nopOf,List.cons_append,List.nil_append,List.length_cons,List.length_nil,Nat.zero_add,Nat.reduceAdd];refine tk2 1 rfl aH (h:=tk2 2 rfl aH (h:=tk2 3 rfl aH (h:=?_)));(try simp only[zz]);refine tk2 5 rfl aH (h:=tk2 6 rfl aH (h:=tk2 7 rfl aH (h:=?_)));(try simp only[zz]);refine tk2 8 rfl aH (h:=?_);(try simp only[zz])
      refine wpAnyH_par [0,4,9] #[true,true,true,true,true,true,true,true,true,true,false,false,false] 3 (by kernel_rfl) aH
       (fun a0 D a1 w'=>aJ (Below w8.heap.size w8 w')∧aJ (dn D 4=true→dn D 0=true)∧
        ∃ v66 v70 v75,a1=((a0.put (some 66) v66).put (some 70) v70).put (some 75) v75∧
         aJ (dn D 0=true→dn D 4=false→(∃ y,v66=.slice (some ⟨y,0,none⟩) 0 0)∧AtomsO w' w8.heap.size v66 [])∧
         aJ (dn D 4=true→(∃ A c,v70=.slice A tl.length c)∧AtomsO w' w8.heap.size v70 tl)∧
         aJ (dn D 9=true→∃ y,v75=.slice (some ⟨y,0,none⟩) 1 1∧Blk w' y tA #[.int .i64 x0.kind,.int .i64 x0.a,.int .i64 x0.b]∧(dn D 0=true→dn D 4=false→v66.ownBlock≠some y))) ?start ?steps ?fin
      case start=>exact ⟨(Below.refl _ w8).drew,fun h=>absurd h (by decide),undef,undef,undef,rfl,fun h=>absurd h (by decide),fun h=>absurd h (by decide),fun h=>absurd h (by decide)⟩
      case steps=>
       refine ParSteps.cons rfl (fun D a1 w' hu hd hI hS K' hK G' hG=>?_) (ParSteps.cons rfl (fun D a1 w' hu hd hI hS K' hK G' hG=>?_) (ParSteps.cons rfl (fun D a1 w' hu hd hI hS K' hK G' hG=>?_) ParSteps.nil))
       ·obtain ⟨HW,HC,v66,v70,v75,ha,h0,h4,h9⟩:=hI;rw[ha] at hG;clear ha a1;have u0:=dn_un hu;have u4:dn D 4=false:=by cases e:dn D 4;rfl;have:=HC.o e;rw[u0] at this;cases this
        have HU:=ax u4;clear u0 u4;refine hG ?_;clear hG hd;(try simp only[zz]);go_simp;have hB2:Below w8.heap.size w8 (w'.alloc (.cells #[] tA)):=HW.o.alloc HW.o.size _;have hBw:Below w'.heap.size w' (w'.alloc (.cells #[] tA)):=bbox (Below.refl _ _) _;have hcc:=(HXV.o.bz hB2).cl (k:=0) (by simp);simp only[Nat.zero_mul,Nat.add_zero,Nat.zero_add,List.getElem_cons_zero] at hcc;refine hK.out _ _ ⟨(kx.nz hB2).cell,hcc⟩ ⟨hB2,fun _=>dn_self hu,.slice (some ⟨w'.heap.size,0,none⟩) 0 0,v70,v75,rfl,fun _ _=>⟨⟨_,rfl⟩,(AtomsO.empty w').bq HW.o.size⟩,fun h=>?_,fun h=>?_⟩
        ·rw[dn_ne (by decide)] at h;rw[HU.o] at h;cases h
        ·rw[dn_ne (by decide)] at h;obtain ⟨y,e,hk,-⟩:=h9.o h;exact ⟨y,e,hk.alloc _,fun _ _ e2=>by have:=hk.lt;simp[Value.ownBlock] at e2;omega⟩
       ·obtain ⟨HW,HC,v66,v70,v75,ha,h0,h4,h9⟩:=hI;rw[ha] at hG;clear ha a1;have u4:=dn_un hu;have t0:dn D 0=true:=hd ⟨0,.data⟩ (by simp) (by decide);obtain ⟨⟨y,rfl⟩,o⟩:=h0.o t0 u4;have HO:=ax o;have HU:=ax (And.intro u4 t0);clear u4 t0 o h0 hd;refine hG ?_;clear hG;(try simp only[zz]);rw[if_pos (by simp[Region.wanted])];refine wp_appAL (base:=w8.heap.size) (xs:=[]) (ys:=tl) _ _ rfl rfl HO.o rfl (Rd.tailA (HXV.o.bz HW.o)) (by simp;omega) HW.o.size ?_;intro A' c' w2 o2 hg2 hB2;simp only[List.nil_append] at o2 ⊢;have hB3:Below w8.heap.size w8 w2:=HW.o.trans hB2;have hcc:=(HXV.o.bz hB3).cl (k:=0) (by simp);simp only[Nat.zero_mul,Nat.add_zero,Nat.zero_add,List.getElem_cons_zero] at hcc;refine hK.out _ _ ⟨(kx.nz hB3).cell,hcc⟩ ⟨hB3,fun _=>?_,.slice (some ⟨y,0,none⟩) 0 0,.slice A' tl.length c',v75,rfl,fun _ h=>?_,fun _=>⟨⟨A',c',rfl⟩,o2⟩,fun h=>?_⟩
        ·rw[dn_ne (by decide)];exact HU.o.2
        ·rw[dn_self hu] at h;cases h
        ·rw[dn_ne (by decide)] at h;obtain ⟨z,e,hk,hne⟩:=h9.o h;exact ⟨z,e,hk.grown hg2 (fun e2=>hne HU.o.2 HU.o.1 e2.symm),fun _ h2=>by rw[dn_self hu] at h2;cases h2⟩
       ·obtain ⟨HW,HC,v66,v70,v75,ha,h0,h4,h9⟩:=hI;rw[ha] at hG;clear ha a1;refine hG ?_;clear hG hd;(try simp only[zz]);go_simp;have hB2:Below w8.heap.size w8 (w'.alloc (.cells #[.int .i64 x0.kind,.int .i64 x0.a,.int .i64 x0.b] tA)):=HW.o.alloc HW.o.size _;have hBw:Below w'.heap.size w' (w'.alloc (.cells #[.int .i64 x0.kind,.int .i64 x0.a,.int .i64 x0.b] tA)):=bbox (Below.refl _ _) _;have hcc:=(HXV.o.bz hB2).cl (k:=0) (by simp);simp only[Nat.zero_mul,Nat.add_zero,Nat.zero_add,List.getElem_cons_zero] at hcc;refine hK.out _ _ ⟨(kx.nz hB2).cell,hcc⟩ ⟨hB2,fun h=>?_,v66,v70,.slice (some ⟨w'.heap.size,0,none⟩) 1 1,rfl,fun h h'=>?_,fun h=>?_,fun _=>⟨_,rfl,Blk.new _ _ _,fun h h' e=>?_⟩⟩
        ·rw[dn_ne (by decide)] at h ⊢;exact HC.o h
        ·rw[dn_ne (by decide)] at h h';exact ⟨(h0.o h h').1,(h0.o h h').2.bz hBw⟩
        ·rw[dn_ne (by decide)] at h;exact ⟨(h4.o h).1,(h4.o h).2.bz hBw⟩
        ·rw[dn_ne (by decide)] at h h';have:=((h0.o h h').2.1.lt _ e).2;omega
      case fin=>
       rintro a1 w9 aH ⟨HW,-,v66,v70,v75,rfl,-,h4,h9⟩;obtain ⟨⟨A9,c9,rfl⟩,o9⟩:=h4.o (by decide);obtain ⟨y9,rfl,ky9,-⟩:=h9.o (by decide);have HO9:=ax o9;clear o9 h4 h9;(try simp only[zz]);refine rdc 10 rfl fun K hK=>?_;skip;(refine stepAL (base:=w8.heap.size) (xs:=tl) (ys:=[x0]) rfl _ _ rfl rfl HO9.o rfl (AtomsV.one (f:=x0) ky9) (by simp;omega) HW.o.size ?_;intro A10 c10 w10 o10 hg10 hB10;have hB11:Below w8.heap.size w8 w10:=HW.o.trans hB10;have hcc:=(HXV.o.bz hB11).cl (k:=0) (by simp);simp only[Nat.zero_mul,Nat.add_zero,Nat.zero_add,List.getElem_cons_zero] at hcc);refine hK.out _ _ (⟨(kx.nz hB11).cell,hcc⟩) ?_;clear aH hK K;intro aH;(try simp only[zz]);rw[List.length_append,List.length_singleton] at o10;have HO10:=ax o10;have hsz8:=HF.o.size;have kx10:=kx.nz hB11;have k110:=k1.nz hB11;have HF10:=ax (HF.o.go hB11);have HR10:=ax (HR.o.bz hB11);have HFO10:=ax (HFO.o.bz hB11);clear o10 hg10 hB10 HW HO9 ky9 HO2 kx k1 HF HR HFO qk1 rk1 lk1 qkx rkx lkx z0 z1 z2;(replace qk110:=k110.cell;replace rk110:=k110.frozen;replace lk110:=k110.lt;replace qkx10:=kx10.z);refine tk2 11 rfl aH (h:=?_);(try simp only[zz]);refine rdc 12 rfl fun K hK=>?_;go_simp;refine hK.out _ _ (⟨kx10.cell,hcc⟩) (fun aH=>?_);clear hK K;refine wpAnyH_done (by kernel_rfl) ?_ _;unfold lastQ;go_simp;refine NoPanic.normal ?_;have hne:X≠w.heap.size+1:=by omega
       have kx11:=kx10.set_ 1 (.slice A10 (tl.length+1) c10);have k111:=k110.far (p:=⟨X,1,none⟩) (by simp only;omega) (.slice A10 (tl.length+1) c10);have HO11:=ax (HO10.o.setT kx10 (by decide) 1 (.slice A10 (tl.length+1) c10));have HFO11:=ax (HFO10.o.setT kx10 (by decide) 1 (.slice A10 (tl.length+1) c10));have HR11:=ax (HR10.o.set_ (q:=⟨X,1,none⟩) (by simp only;omega) (.slice A10 (tl.length+1) c10));have HF11:=ax (HF10.o.set_ (p:=⟨X,1,none⟩) (Or.inr (by simp only;omega)) (.slice A10 (tl.length+1) c10));clear hcc aH;(go_wp2_with fail)
       first
       | (refine bodyPost_ret (v:=.agg #[.slice F fs.length e1,.slice A10 (tl.length+1) c10]) (by simp[results,Tryz.results101,go_sem,qk110]) rfl ⟨_,rfl,⟨fs,tl++[x0]⟩,⟨F,e1,A10,c10,by simp,?_,?_⟩,hfl,by simp;omega,q,?_,by omega,?_⟩)
       | (refine bodyPost_ret (v:=.agg #[.slice F fs.length e1,.slice A10 (tl.length+1) c10]) (by simp[results,Tryz.results101,go_sem,qk110]) rfl ⟨_,⟨fs,tl++[x0]⟩,q,rfl,⟨F,e1,A10,c10,by simp,?_,?_⟩,hfl,by simp;omega,?_,by omega,?_⟩)
       ·exact HREL.o.rj ((HFO11.o.setT k111 (by decide) 0 _).setT (k111.set_ 0 _) (by decide) 1 _)
       ·exact (((((HO11.o.bq (base':=w.heap.size) (by omega)).setT k111 (by decide) 0 _).setT (k111.set_ 0 _) (by decide) 1 _)).reads2)
       ·exact (HR11.o.set_ (q:=⟨w.heap.size+1,0,none⟩) (by simp only;omega) _).set_ (q:=⟨w.heap.size+1,1,none⟩) (by simp only;omega) _
       ·exact (HF11.o.set_ (p:=⟨w.heap.size+1,0,none⟩) (Or.inr (by simp only;omega)) _).set_ (p:=⟨w.heap.size+1,1,none⟩) (Or.inr (by simp only;omega)) _
     have hm8b:((m8:Int) == 0)=false:=by simpa using hm80
     clear hm80 hm8;have hne:X≠w.heap.size+1:=by omega
     go_wp2_with fail
     first
     | (refine bodyPost_ret (v:=.agg #[.slice F fs.length e1,.slice (some ⟨ga,0,none⟩) ys.length d1]) (by simp[results,Tryz.results101,go_sem,qk1]) rfl ⟨_,rfl,⟨fs,ys⟩,⟨F,e1,(some ⟨ga,0,none⟩),d1,rfl,?_,?_⟩,hfl,hxl,q,?_,by omega,?_⟩)
     | (refine bodyPost_ret (v:=.agg #[.slice F fs.length e1,.slice (some ⟨ga,0,none⟩) ys.length d1]) (by simp[results,Tryz.results101,go_sem,qk1]) rfl ⟨_,⟨fs,ys⟩,q,rfl,⟨F,e1,(some ⟨ga,0,none⟩),d1,rfl,?_,?_⟩,hfl,hxl,?_,by omega,?_⟩)
     ·exact HREL.o.rj ((HFO.o.setT k1 (by decide) 0 _).setT (k1.set_ 0 _) (by decide) 1 _)
     ·exact ((((HO2.o.setT k1 (by decide) 0 _).setT (k1.set_ 0 _) (by decide) 1 _)).readsI).2
     ·exact (HR.o.set_ (q:=⟨w.heap.size+1,0,none⟩) (by simp only;omega) _).set_ (q:=⟨w.heap.size+1,1,none⟩) (by simp only;omega) _
     ·exact (HF.o.set_ (p:=⟨w.heap.size+1,0,none⟩) (Or.inr (by simp only;omega)) _).set_ (p:=⟨w.heap.size+1,1,none⟩) (Or.inr (by simp only;omega)) _
    have hm6b:((m6:Int) == 0)=false:=by simpa using hm60
    clear hm60 hm6;by_cases hx1:xs.length≤1
    ·have hx1i:¬(1:Int)<(xs.length:Int):=by omega
     have hne:X≠w.heap.size+1:=by omega
     go_wp2_with fail
     first
     | (refine bodyPost_ret (v:=.agg #[.slice F fs.length e1,.slice G xs.length d1]) (by simp[results,Tryz.results101,go_sem,qk1]) rfl ⟨_,rfl,⟨fs,xs⟩,⟨F,e1,G,d1,rfl,?_,?_⟩,hfl,hxl,q,?_,by omega,?_⟩)
     | (refine bodyPost_ret (v:=.agg #[.slice F fs.length e1,.slice G xs.length d1]) (by simp[results,Tryz.results101,go_sem,qk1]) rfl ⟨_,⟨fs,xs⟩,q,rfl,⟨F,e1,G,d1,rfl,?_,?_⟩,hfl,hxl,?_,by omega,?_⟩)
     ·exact HREL.o.rj ((HFO.o.setT k1 (by decide) 0 _).setT (k1.set_ 0 _) (by decide) 1 _)
     ·exact ((((HO2.o.setT k1 (by decide) 0 _).setT (k1.set_ 0 _) (by decide) 1 _)).readsI).2
     ·exact (HR.o.set_ (q:=⟨w.heap.size+1,0,none⟩) (by simp only;omega) _).set_ (q:=⟨w.heap.size+1,1,none⟩) (by simp only;omega) _
     ·exact (HF.o.set_ (p:=⟨w.heap.size+1,0,none⟩) (Or.inr (by simp only;omega)) _).set_ (p:=⟨w.heap.size+1,1,none⟩) (Or.inr (by simp only;omega)) _
    have hx1i:(1:Int)<(xs.length:Int):=by omega
    (go_wp2_with fail);refine (c_pick g q 3 _ HR.o (by omega)).mono ?_;rintro e w8 ⟨m8,rfl,hm8,hR,hF⟩;replace k1:=k1.fr hF (by omega);replace kx:=kx.fr hF (by omega);replace HF:=ax (HF.o.trans hF);replace HFO:=ax (HFO.o.fr hF hlt);replace HO2:=ax (HO2.o.fr hF hlt);replace HR:=ax hR;replace hq:q+1≤p+3:=by omega
    generalize q+1=q at HR hq;clear hR hF;(replace qk1:=k1.cell;replace rk1:=k1.frozen;replace lk1:=k1.lt;replace qkx:=kx.cell;replace rkx:=kx.frozen;replace lkx:=kx.lt);by_cases hm80:(m8:Int)=0
    ·have hm8b:((m8:Int) == 0)=true:=by simpa using hm80
     clear hm80 hm8
     obtain ⟨x0,tl,rfl⟩:∃ x0 tl,xs=x0 :: tl:=by
      cases xs with
      | nil=>simp at hx1i
      | cons x0 tl=>exact ⟨x0,tl,rfl⟩
     obtain ⟨ga,cur,-,rfl,hga,kg,-⟩:=HO2.o.open_ (k:=0) (by simp);have hcap:(x0 :: tl).length≤d1:=AtomsO.capL HO2.o;have hd1:1<d1:=by simp at hcap hx1i;omega
     have hd2:¬d1 - 1=0:=by omega
     have hd3:d1≠1:=by omega
     have hti:(0:Int)<(tl.length:Int)+1:=by omega
     have hti1:(1:Int)≤(tl.length:Int)+1:=by omega
     have htl:tl.length≤19:=by simp at hxl;omega
     have HXV:=ax (HO2.o.readsI).2;have hc3:=HXV.o.cl (k:=0) (by simp);obtain ⟨z0,z1,z2⟩:=hc3;simp only[Nat.zero_mul,Nat.add_zero,Nat.zero_add,List.getElem_cons_zero] at z0 z1 z2;clear kg hga hcap;(go_wp2_with fail);refine wp_region_noPanic ?_;refine wp_region_last' (S:=(fun w'=>(∀ i,w'.cell? ⟨X,i,none⟩=#[.slice F fs.length e1,.slice (some ⟨ga,0,none⟩) (x0 :: tl).length d1][i]?)∧w'.cell? ⟨ga,0,none⟩=some (.int .i64 x0.kind)∧w'.cell? ⟨ga,1,none⟩=some (.int .i64 x0.a)∧w'.cell? ⟨ga,2,none⟩=some (.int .i64 x0.b))) (by simp) (by kernel_rfl) (by kernel_rfl) (⟨Blk.cell blks,z0,z1,z2⟩) (fun aH=>?_);simp only[List.dropLast,List.getLast,nopOf,List.cons_append,List.nil_append,List.length_cons,List.length_nil,Nat.zero_add,Nat.reduceAdd];refine tk2 1 rfl aH (h:=tk2 2 rfl aH (h:=tk2 3 rfl aH (h:=?_)));(try simp only[zz]);refine tk2 5 rfl aH (h:=tk2 6 rfl aH (h:=tk2 7 rfl aH (h:=?_)));(try simp only[zz]);refine tk2 8 rfl aH (h:=?_);(try simp only[zz])
     refine wpAnyH_par [0,4,9] #[true,true,true,true,true,true,true,true,true,true,false,false,false] 3 (by kernel_rfl) aH
      (fun a0 D a1 w'=>aJ (Below w8.heap.size w8 w')∧aJ (dn D 4=true→dn D 0=true)∧
       ∃ v66 v70 v75,a1=((a0.put (some 66) v66).put (some 70) v70).put (some 75) v75∧
        aJ (dn D 0=true→dn D 4=false→(∃ y,v66=.slice (some ⟨y,0,none⟩) 0 0)∧AtomsO w' w8.heap.size v66 [])∧
        aJ (dn D 4=true→(∃ A c,v70=.slice A tl.length c)∧AtomsO w' w8.heap.size v70 tl)∧
        aJ (dn D 9=true→∃ y,v75=.slice (some ⟨y,0,none⟩) 1 1∧Blk w' y tA #[.int .i64 x0.kind,.int .i64 x0.a,.int .i64 x0.b]∧(dn D 0=true→dn D 4=false→v66.ownBlock≠some y))) ?start ?steps ?fin
     case start=>exact ⟨(Below.refl _ w8).drew,fun h=>absurd h (by decide),undef,undef,undef,rfl,fun h=>absurd h (by decide),fun h=>absurd h (by decide),fun h=>absurd h (by decide)⟩
     case steps=>
      refine ParSteps.cons rfl (fun D a1 w' hu hd hI hS K' hK G' hG=>?_) (ParSteps.cons rfl (fun D a1 w' hu hd hI hS K' hK G' hG=>?_) (ParSteps.cons rfl (fun D a1 w' hu hd hI hS K' hK G' hG=>?_) ParSteps.nil))
      ·obtain ⟨HW,HC,v66,v70,v75,ha,h0,h4,h9⟩:=hI;rw[ha] at hG;clear ha a1;have u0:=dn_un hu;have u4:dn D 4=false:=by cases e:dn D 4;rfl;have:=HC.o e;rw[u0] at this;cases this
       have HU:=ax u4;clear u0 u4;refine hG ?_;clear hG hd;(try simp only[zz]);go_simp;have hB2:Below w8.heap.size w8 (w'.alloc (.cells #[] tA)):=HW.o.alloc HW.o.size _;have hBw:Below w'.heap.size w' (w'.alloc (.cells #[] tA)):=bbox (Below.refl _ _) _;have hcc:=(HXV.o.bz hB2).cl (k:=0) (by simp);simp only[Nat.zero_mul,Nat.add_zero,Nat.zero_add,List.getElem_cons_zero] at hcc;refine hK.out _ _ ⟨(kx.nz hB2).cell,hcc⟩ ⟨hB2,fun _=>dn_self hu,.slice (some ⟨w'.heap.size,0,none⟩) 0 0,v70,v75,rfl,fun _ _=>⟨⟨_,rfl⟩,(AtomsO.empty w').bq HW.o.size⟩,fun h=>?_,fun h=>?_⟩
       ·rw[dn_ne (by decide)] at h;rw[HU.o] at h;cases h
       ·rw[dn_ne (by decide)] at h;obtain ⟨y,e,hk,-⟩:=h9.o h;exact ⟨y,e,hk.alloc _,fun _ _ e2=>by have:=hk.lt;simp[Value.ownBlock] at e2;omega⟩
      ·obtain ⟨HW,HC,v66,v70,v75,ha,h0,h4,h9⟩:=hI;rw[ha] at hG;clear ha a1;have u4:=dn_un hu;have t0:dn D 0=true:=hd ⟨0,.data⟩ (by simp) (by decide);obtain ⟨⟨y,rfl⟩,o⟩:=h0.o t0 u4;have HO:=ax o;have HU:=ax (And.intro u4 t0);clear u4 t0 o h0 hd;refine hG ?_;clear hG;(try simp only[zz]);rw[if_pos (by simp[Region.wanted])];refine wp_appAL (base:=w8.heap.size) (xs:=[]) (ys:=tl) _ _ rfl rfl HO.o rfl (Rd.tailA (HXV.o.bz HW.o)) (by simp;omega) HW.o.size ?_;intro A' c' w2 o2 hg2 hB2;simp only[List.nil_append] at o2 ⊢;have hB3:Below w8.heap.size w8 w2:=HW.o.trans hB2;have hcc:=(HXV.o.bz hB3).cl (k:=0) (by simp);simp only[Nat.zero_mul,Nat.add_zero,Nat.zero_add,List.getElem_cons_zero] at hcc;refine hK.out _ _ ⟨(kx.nz hB3).cell,hcc⟩ ⟨hB3,fun _=>?_,.slice (some ⟨y,0,none⟩) 0 0,.slice A' tl.length c',v75,rfl,fun _ h=>?_,fun _=>⟨⟨A',c',rfl⟩,o2⟩,fun h=>?_⟩
       ·rw[dn_ne (by decide)];exact HU.o.2
       ·rw[dn_self hu] at h;cases h
       ·rw[dn_ne (by decide)] at h;obtain ⟨z,e,hk,hne⟩:=h9.o h;exact ⟨z,e,hk.grown hg2 (fun e2=>hne HU.o.2 HU.o.1 e2.symm),fun _ h2=>by rw[dn_self hu] at h2;cases h2⟩
      ·obtain ⟨HW,HC,v66,v70,v75,ha,h0,h4,h9⟩:=hI;rw[ha] at hG;clear ha a1;refine hG ?_;clear hG hd;(try simp only[zz]);go_simp;have hB2:Below w8.heap.size w8 (w'.alloc (.cells #[.int .i64 x0.kind,.int .i64 x0.a,.int .i64 x0.b] tA)):=HW.o.alloc HW.o.size _;have hBw:Below w'.heap.size w' (w'.alloc (.cells #[.int .i64 x0.kind,.int .i64 x0.a,.int .i64 x0.b] tA)):=bbox (Below.refl _ _) _;have hcc:=(HXV.o.bz hB2).cl (k:=0) (by simp);simp only[Nat.zero_mul,Nat.add_zero,Nat.zero_add,List.getElem_cons_zero] at hcc;refine hK.out _ _ ⟨(kx.nz hB2).cell,hcc⟩ ⟨hB2,fun h=>?_,v66,v70,.slice (some ⟨w'.heap.size,0,none⟩) 1 1,rfl,fun h h'=>?_,fun h=>?_,fun _=>⟨_,rfl,Blk.new _ _ _,fun h h' e=>?_⟩⟩
       ·rw[dn_ne (by decide)] at h ⊢;exact HC.o h
       ·rw[dn_ne (by decide)] at h h';exact ⟨(h0.o h h').1,(h0.o h h').2.bz hBw⟩
       ·rw[dn_ne (by decide)] at h;exact ⟨(h4.o h).1,(h4.o h).2.bz hBw⟩
       ·rw[dn_ne (by decide)] at h h';have:=((h0.o h h').2.1.lt _ e).2;omega
     case fin=>
      rintro a1 w9 aH ⟨HW,-,v66,v70,v75,rfl,-,h4,h9⟩;obtain ⟨⟨A9,c9,rfl⟩,o9⟩:=h4.o (by decide);obtain ⟨y9,rfl,ky9,-⟩:=h9.o (by decide);have HO9:=ax o9;clear o9 h4 h9;(try simp only[zz]);refine rdc 10 rfl fun K hK=>?_;skip;(refine stepAL (base:=w8.heap.size) (xs:=tl) (ys:=[x0]) rfl _ _ rfl rfl HO9.o rfl (AtomsV.one (f:=x0) ky9) (by simp;omega) HW.o.size ?_;intro A10 c10 w10 o10 hg10 hB10;have hB11:Below w8.heap.size w8 w10:=HW.o.trans hB10;have hcc:=(HXV.o.bz hB11).cl (k:=0) (by simp);simp only[Nat.zero_mul,Nat.add_zero,Nat.zero_add,List.getElem_cons_zero] at hcc);refine hK.out _ _ (⟨(kx.nz hB11).cell,hcc⟩) ?_;clear aH hK K;intro aH;(try simp only[zz]);rw[List.length_append,List.length_singleton] at o10;have HO10:=ax o10;have hsz8:=HF.o.size;have kx10:=kx.nz hB11;have k110:=k1.nz hB11;have HF10:=ax (HF.o.go hB11);have HR10:=ax (HR.o.bz hB11);have HFO10:=ax (HFO.o.bz hB11);clear o10 hg10 hB10 HW HO9 ky9 HO2 kx k1 HF HR HFO qk1 rk1 lk1 qkx rkx lkx z0 z1 z2;(replace qk110:=k110.cell;replace rk110:=k110.frozen;replace lk110:=k110.lt;replace qkx10:=kx10.z);refine tk2 11 rfl aH (h:=?_);(try simp only[zz]);refine rdc 12 rfl fun K hK=>?_;go_simp;refine hK.out _ _ (⟨kx10.cell,hcc⟩) (fun aH=>?_);clear hK K;refine wpAnyH_done (by kernel_rfl) ?_ _;unfold lastQ;go_simp;refine NoPanic.normal ?_;have hne:X≠w.heap.size+1:=by omega
      have kx11:=kx10.set_ 1 (.slice A10 (tl.length+1) c10);have k111:=k110.far (p:=⟨X,1,none⟩) (by simp only;omega) (.slice A10 (tl.length+1) c10);have HO11:=ax (HO10.o.setT kx10 (by decide) 1 (.slice A10 (tl.length+1) c10));have HFO11:=ax (HFO10.o.setT kx10 (by decide) 1 (.slice A10 (tl.length+1) c10));have HR11:=ax (HR10.o.set_ (q:=⟨X,1,none⟩) (by simp only;omega) (.slice A10 (tl.length+1) c10));have HF11:=ax (HF10.o.set_ (p:=⟨X,1,none⟩) (Or.inr (by simp only;omega)) (.slice A10 (tl.length+1) c10));clear hcc aH;(go_wp2_with fail)
      first
      | (refine bodyPost_ret (v:=.agg #[.slice F fs.length e1,.slice A10 (tl.length+1) c10]) (by simp[results,Tryz.results101,go_sem,qk110]) rfl ⟨_,rfl,⟨fs,tl++[x0]⟩,⟨F,e1,A10,c10,by simp,?_,?_⟩,hfl,by simp;omega,q,?_,by omega,?_⟩)
      | (refine bodyPost_ret (v:=.agg #[.slice F fs.length e1,.slice A10 (tl.length+1) c10]) (by simp[results,Tryz.results101,go_sem,qk110]) rfl ⟨_,⟨fs,tl++[x0]⟩,q,rfl,⟨F,e1,A10,c10,by simp,?_,?_⟩,hfl,by simp;omega,?_,by omega,?_⟩)
      ·exact HREL.o.rj ((HFO11.o.setT k111 (by decide) 0 _).setT (k111.set_ 0 _) (by decide) 1 _)
      ·exact (((((HO11.o.bq (base':=w.heap.size) (by omega)).setT k111 (by decide) 0 _).setT (k111.set_ 0 _) (by decide) 1 _)).reads2)
      ·exact (HR11.o.set_ (q:=⟨w.heap.size+1,0,none⟩) (by simp only;omega) _).set_ (q:=⟨w.heap.size+1,1,none⟩) (by simp only;omega) _
      ·exact (HF11.o.set_ (p:=⟨w.heap.size+1,0,none⟩) (Or.inr (by simp only;omega)) _).set_ (p:=⟨w.heap.size+1,1,none⟩) (Or.inr (by simp only;omega)) _
    have hm8b:((m8:Int) == 0)=false:=by simpa using hm80
    clear hm80 hm8;have hne:X≠w.heap.size+1:=by omega
    go_wp2_with fail
    first
    | (refine bodyPost_ret (v:=.agg #[.slice F fs.length e1,.slice G xs.length d1]) (by simp[results,Tryz.results101,go_sem,qk1]) rfl ⟨_,rfl,⟨fs,xs⟩,⟨F,e1,G,d1,rfl,?_,?_⟩,hfl,hxl,q,?_,by omega,?_⟩)
    | (refine bodyPost_ret (v:=.agg #[.slice F fs.length e1,.slice G xs.length d1]) (by simp[results,Tryz.results101,go_sem,qk1]) rfl ⟨_,⟨fs,xs⟩,q,rfl,⟨F,e1,G,d1,rfl,?_,?_⟩,hfl,hxl,?_,by omega,?_⟩)
    ·exact HREL.o.rj ((HFO.o.setT k1 (by decide) 0 _).setT (k1.set_ 0 _) (by decide) 1 _)
    ·exact ((((HO2.o.setT k1 (by decide) 0 _).setT (k1.set_ 0 _) (by decide) 1 _)).readsI).2
    ·exact (HR.o.set_ (q:=⟨w.heap.size+1,0,none⟩) (by simp only;omega) _).set_ (q:=⟨w.heap.size+1,1,none⟩) (by simp only;omega) _
    ·exact (HF.o.set_ (p:=⟨w.heap.size+1,0,none⟩) (Or.inr (by simp only;omega)) _).set_ (p:=⟨w.heap.size+1,1,none⟩) (Or.inr (by simp only;omega)) _
   have hf0:(0:Int)<(fs.length:Int):=by omega
   (go_wp2_with fail);refine (c_pick g q 2 _ HR.o (by omega)).mono ?_;rintro e w5 ⟨m5,rfl,hm5,hR,hF⟩;replace k1:=k1.fr hF (by omega);replace kx:=kx.fr hF (by omega);replace HF:=ax (HF.o.trans hF);replace HFO:=ax (HFO.o.fr hF hlt);replace HO2:=ax (HO2.o.fr hF hlt);replace HR:=ax hR;replace hq:q+1≤p+2:=by omega
   generalize q+1=q at HR hq;clear hR hF;(replace qk1:=k1.cell;replace rk1:=k1.frozen;replace lk1:=k1.lt;replace qkx:=kx.cell;replace rkx:=kx.frozen;replace lkx:=kx.lt);by_cases hm50:(m5:Int)=0
   ·have hm5b:((m5:Int) == 0)=true:=by simpa using hm50
    clear hm50 hm5
    obtain ⟨f,ft0,rfl⟩:∃ f ft,fs=f :: ft:=by
     cases fs with
     | nil=>simp at hf
     | cons f ft=>exact ⟨f,ft,rfl⟩
    have hcapF:(f :: ft0).length≤e1:=FactsO.capL HFO.o;obtain ⟨gf,curf,-,rfl,hgf,kf,-⟩:=HFO.o.open_ (k:=0) (by simp);have hft1:(1:Int)≤(ft0.length:Int)+1:=by omega
    clear kf hf hf0;by_cases he1:e1=1
    ·subst he1
     have hftn:ft0=[]:=by
      cases ft0 with
      | nil=>rfl
      | cons a b=>simp at hcapF
     clear hcapF;have hflN:([]:List Fct).length≤20:=by (first|(simp;done)|(simp at hfl ⊢;omega))
     have hXw1:w.heap.size+1≠X:=by omega
     have HREL:aJ (FRel (some ⟨gf,0,none⟩) (f :: ft0) (some ⟨gf,0,none⟩) ([]:List Fct)):=Or.inr (Or.inr rfl);have kx0:=kx;replace HFO:=ax (HFO.o.setT kx0 (by decide) 0 (.slice (some ⟨gf,0,none⟩) ([]:List Fct).length (0)));replace HO2:=ax (HO2.o.setT kx0 (by decide) 0 (.slice (some ⟨gf,0,none⟩) ([]:List Fct).length (0)));replace HR:=ax (HR.o.set_ (q:=⟨X,0,none⟩) (by simp only;omega) (.slice (some ⟨gf,0,none⟩) ([]:List Fct).length (0)));replace HF:=ax (HF.o.set_ (p:=⟨X,0,none⟩) (Or.inr (by simp only;omega)) (.slice (some ⟨gf,0,none⟩) ([]:List Fct).length (0)));replace k1:=k1.far (p:=⟨X,0,none⟩) (by simp only;omega) (.slice (some ⟨gf,0,none⟩) ([]:List Fct).length (0));replace kx:Blk (w5.setCell ⟨X,0,none⟩ (.slice (some ⟨gf,0,none⟩) ([]:List Fct).length (0))) X tAs #[(.slice (some ⟨gf,0,none⟩) ([]:List Fct).length (0)),.slice G xs.length d1]:=by simpa using kx0.set_ 0 (.slice (some ⟨gf,0,none⟩) ([]:List Fct).length (0))
     clear kx0;subst hftn;by_cases hx0:xs.length=0
     ·have hx0i:¬(0:Int)<(xs.length:Int):=by omega
      have hx1i:¬(1:Int)<(xs.length:Int):=by omega
      clear hx0;have hne:X≠w.heap.size+1:=by omega
      go_wp2_with fail
      first
      | (refine bodyPost_ret (v:=.agg #[.slice (some ⟨gf,0,none⟩) ([]:List Fct).length 0,.slice G xs.length d1]) (by simp[results,Tryz.results101,go_sem,qk1]) rfl ⟨_,rfl,⟨([]:List Fct),xs⟩,⟨(some ⟨gf,0,none⟩),0,G,d1,rfl,?_,?_⟩,hflN,hxl,q,?_,by omega,?_⟩)
      | (refine bodyPost_ret (v:=.agg #[.slice (some ⟨gf,0,none⟩) ([]:List Fct).length 0,.slice G xs.length d1]) (by simp[results,Tryz.results101,go_sem,qk1]) rfl ⟨_,⟨([]:List Fct),xs⟩,q,rfl,⟨(some ⟨gf,0,none⟩),0,G,d1,rfl,?_,?_⟩,hflN,hxl,?_,by omega,?_⟩)
      ·exact HREL.o.rj ((HFO.o.setT k1 (by decide) 0 _).setT (k1.set_ 0 _) (by decide) 1 _)
      ·exact ((((HO2.o.setT k1 (by decide) 0 _).setT (k1.set_ 0 _) (by decide) 1 _)).readsI).2
      ·exact (HR.o.set_ (q:=⟨w.heap.size+1,0,none⟩) (by simp only;omega) _).set_ (q:=⟨w.heap.size+1,1,none⟩) (by simp only;omega) _
      ·exact (HF.o.set_ (p:=⟨w.heap.size+1,0,none⟩) (Or.inr (by simp only;omega)) _).set_ (p:=⟨w.heap.size+1,1,none⟩) (Or.inr (by simp only;omega)) _
     have hx0i:(0:Int)<(xs.length:Int):=by omega
     (go_wp2_with fail);refine (c_pick g q 3 _ HR.o (by omega)).mono ?_;rintro e w6 ⟨m6,rfl,hm6,hR,hF⟩;replace k1:=k1.fr hF (by omega);replace kx:=kx.fr hF (by omega);replace HF:=ax (HF.o.trans hF);replace HFO:=ax (HFO.o.fr hF hlt);replace HO2:=ax (HO2.o.fr hF hlt);replace HR:=ax hR;replace hq:q+1≤p+3:=by omega
     generalize q+1=q at HR hq;clear hR hF;(replace qk1:=k1.cell;replace rk1:=k1.frozen;replace lk1:=k1.lt;replace qkx:=kx.cell;replace rkx:=kx.frozen;replace lkx:=kx.lt);by_cases hm60:(m6:Int)=0
     ·have hm6b:((m6:Int) == 0)=true:=by simpa using hm60
      clear hm60 hm6;(go_wp2_with fail);refine (c_pick g q (xs.length:Int) _ HR.o (by omega)).mono ?_;rintro e w7 ⟨m7,rfl,hm7,hR,hF⟩;replace k1:=k1.fr hF (by omega);replace kx:=kx.fr hF (by omega);replace HF:=ax (HF.o.trans hF);replace HFO:=ax (HFO.o.fr hF hlt);replace HO2:=ax (HO2.o.fr hF hlt);replace HR:=ax hR;replace hq:q+1≤p+4:=by omega
      generalize q+1=q at HR hq;clear hR hF;(replace qk1:=k1.cell;replace rk1:=k1.frozen;replace lk1:=k1.lt;replace qkx:=kx.cell;replace rkx:=kx.frozen;replace lkx:=kx.lt);have hm7l:m7<xs.length:=by omega
      obtain ⟨ga,cur,-,rfl,hga,kg,hsz3,hc0,hc1,hc2,hset⟩:=HO2.o.open_ (k:=m7) hm7l;have qg:=(kg.cell (m7 * 3)).trans hc0;have rg:=kg.frozen;have lg:=kg.lt;obtain ⟨ok,hok⟩:∃ ok,ok=(xs[m7]'hm7l).kind:=⟨_,rfl⟩;rw[←hok] at qg;have hm7i:(m7:Int)<(xs.length:Int):=by omega
      have hxg:X≠ga:=kx.ne_ kg (by decide);have h1g:w.heap.size+1≠ga:=k1.ne_ kg (by decide);clear hc0 hc1 hc2 hok hsz3 hm7;obtain ⟨ys,hys⟩:∃ ys,ys=xs.set m7 ⟨2,(xs[m7]'hm7l).a,(xs[m7]'hm7l).b⟩:=⟨_,rfl⟩;have hyl:ys.length=xs.length:=by rw[hys];simp
      have E0:=hset (m7 * 3) (.int .i64 2) ys (by rw[hys];exact encA_setK hm7l 2) hyl;rw[←hyl] at E0 kx hm7i hxl hx0i;have hga0:=kg;clear hset HO2 hys;have HO2:=ax E0;clear E0;replace HFO:=ax (HFO.o.setT kg (by decide) (m7 * 3) (.int .i64 2));replace HR:=ax (HR.o.set_ (q:=⟨ga,m7 * 3,none⟩) (by simp only;omega) (.int .i64 2));replace HF:=ax (HF.o.set_ (p:=⟨ga,m7 * 3,none⟩) (Or.inr hga) (.int .i64 2));(replace qk1:=k1.cell;replace rk1:=k1.frozen;replace lk1:=k1.lt;replace qkx:=kx.cell;replace rkx:=kx.frozen;replace lkx:=kx.lt);have qk17:=qk1;have qkx7:=qkx;have lk17:=lk1;have lkx7:=lkx;have rk17:=rk1;have rkx7:=rkx;replace k1:=k1.far (p:=⟨ga,m7 * 3,none⟩) h1g (.int .i64 2);replace kx:=kx.far (p:=⟨ga,m7 * 3,none⟩) hxg (.int .i64 2);have hgx:ga≠X:=fun e=>hxg e.symm;have hg1:ga≠w.heap.size+1:=fun e=>h1g e.symm;clear hyl hx0 hm7l;by_cases hx1:ys.length≤1
      ·have hx1i:¬(1:Int)<(ys.length:Int):=by omega
       have hne:X≠w.heap.size+1:=by omega
       go_wp2_with fail
       first
       | (refine bodyPost_ret (v:=.agg #[.slice (some ⟨gf,0,none⟩) ([]:List Fct).length 0,.slice (some ⟨ga,0,none⟩) ys.length d1]) (by simp[results,Tryz.results101,go_sem,qk17,lk17,h1g,hg1]) rfl ⟨_,rfl,⟨([]:List Fct),ys⟩,⟨(some ⟨gf,0,none⟩),0,(some ⟨ga,0,none⟩),d1,rfl,?_,?_⟩,hflN,hxl,q,?_,by omega,?_⟩)
       | (refine bodyPost_ret (v:=.agg #[.slice (some ⟨gf,0,none⟩) ([]:List Fct).length 0,.slice (some ⟨ga,0,none⟩) ys.length d1]) (by simp[results,Tryz.results101,go_sem,qk17,lk17,h1g,hg1]) rfl ⟨_,⟨([]:List Fct),ys⟩,q,rfl,⟨(some ⟨gf,0,none⟩),0,(some ⟨ga,0,none⟩),d1,rfl,?_,?_⟩,hflN,hxl,?_,by omega,?_⟩)
       ·exact HREL.o.rj ((HFO.o.setT k1 (by decide) 0 _).setT (k1.set_ 0 _) (by decide) 1 _)
       ·exact ((((HO2.o.setT k1 (by decide) 0 _).setT (k1.set_ 0 _) (by decide) 1 _)).readsI).2
       ·exact (HR.o.set_ (q:=⟨w.heap.size+1,0,none⟩) (by simp only;omega) _).set_ (q:=⟨w.heap.size+1,1,none⟩) (by simp only;omega) _
       ·exact (HF.o.set_ (p:=⟨w.heap.size+1,0,none⟩) (Or.inr (by simp only;omega)) _).set_ (p:=⟨w.heap.size+1,1,none⟩) (Or.inr (by simp only;omega)) _
      have hx1i:(1:Int)<(ys.length:Int):=by omega
      (go_wp2_with fail);refine (c_pick g q 3 _ HR.o (by omega)).mono ?_;rintro e w8 ⟨m8,rfl,hm8,hR,hF⟩;replace k1:=k1.fr hF (by omega);replace kx:=kx.fr hF (by omega);replace HF:=ax (HF.o.trans hF);replace HFO:=ax (HFO.o.fr hF hlt);replace HO2:=ax (HO2.o.fr hF hlt);replace HR:=ax hR;replace hq:q+1≤p+5:=by omega
      generalize q+1=q at HR hq;clear hR hF;(replace qk1:=k1.cell;replace rk1:=k1.frozen;replace lk1:=k1.lt;replace qkx:=kx.cell;replace rkx:=kx.frozen;replace lkx:=kx.lt);by_cases hm80:(m8:Int)=0
      ·have hm8b:((m8:Int) == 0)=true:=by simpa using hm80
       clear hm80 hm8
       obtain ⟨x0,tl,rfl⟩:∃ x0 tl,ys=x0 :: tl:=by
        cases ys with
        | nil=>simp at hx1i
        | cons x0 tl=>exact ⟨x0,tl,rfl⟩
       have hcap:(x0 :: tl).length≤d1:=AtomsO.capL HO2.o;have hd1:1<d1:=by simp at hcap hx1i;omega
       have hd2:¬d1 - 1=0:=by omega
       have hd3:d1≠1:=by omega
       have hti:(0:Int)<(tl.length:Int)+1:=by omega
       have hti1:(1:Int)≤(tl.length:Int)+1:=by omega
       have htl:tl.length≤19:=by simp at hxl;omega
       have HXV:=ax (HO2.o.readsI).2;have hc3:=HXV.o.cl (k:=0) (by simp);obtain ⟨z0,z1,z2⟩:=hc3;simp only[Nat.zero_mul,Nat.add_zero,Nat.zero_add,List.getElem_cons_zero] at z0 z1 z2;clear hcap;(go_wp2_with fail);refine wp_region_noPanic ?_;refine wp_region_last' (S:=(fun w'=>(∀ i,w'.cell? ⟨X,i,none⟩=#[.slice (some ⟨gf,0,none⟩) ([]:List Fct).length 0,.slice (some ⟨ga,0,none⟩) (x0 :: tl).length d1][i]?)∧w'.cell? ⟨ga,0,none⟩=some (.int .i64 x0.kind)∧w'.cell? ⟨ga,1,none⟩=some (.int .i64 x0.a)∧w'.cell? ⟨ga,2,none⟩=some (.int .i64 x0.b))) (by simp) (by kernel_rfl) (by kernel_rfl) (⟨Blk.cell blks,z0,z1,z2⟩) (fun aH=>?_);simp only[List.dropLast,List.getLast,nopOf,List.cons_append,List.nil_append,List.length_cons,List.length_nil,Nat.zero_add,Nat.reduceAdd];refine tk2 1 rfl aH (h:=tk2 2 rfl aH (h:=tk2 3 rfl aH (h:=?_)));(try simp only[zz]);refine tk2 5 rfl aH (h:=tk2 6 rfl aH (h:=tk2 7 rfl aH (h:=?_)));(try simp only[zz]);refine tk2 8 rfl aH (h:=?_);(try simp only[zz])
       refine wpAnyH_par [0,4,9] #[true,true,true,true,true,true,true,true,true,true,false,false,false] 3 (by kernel_rfl) aH
        (fun a0 D a1 w'=>aJ (Below w8.heap.size w8 w')∧aJ (dn D 4=true→dn D 0=true)∧
         ∃ v66 v70 v75,a1=((a0.put (some 66) v66).put (some 70) v70).put (some 75) v75∧
          aJ (dn D 0=true→dn D 4=false→(∃ y,v66=.slice (some ⟨y,0,none⟩) 0 0)∧AtomsO w' w8.heap.size v66 [])∧
          aJ (dn D 4=true→(∃ A c,v70=.slice A tl.length c)∧AtomsO w' w8.heap.size v70 tl)∧
          aJ (dn D 9=true→∃ y,v75=.slice (some ⟨y,0,none⟩) 1 1∧Blk w' y tA #[.int .i64 x0.kind,.int .i64 x0.a,.int .i64 x0.b]∧(dn D 0=true→dn D 4=false→v66.ownBlock≠some y))) ?start ?steps ?fin
       case start=>exact ⟨(Below.refl _ w8).drew,fun h=>absurd h (by decide),undef,undef,undef,rfl,fun h=>absurd h (by decide),fun h=>absurd h (by decide),fun h=>absurd h (by decide)⟩
       case steps=>
        refine ParSteps.cons rfl (fun D a1 w' hu hd hI hS K' hK G' hG=>?_) (ParSteps.cons rfl (fun D a1 w' hu hd hI hS K' hK G' hG=>?_) (ParSteps.cons rfl (fun D a1 w' hu hd hI hS K' hK G' hG=>?_) ParSteps.nil))
        ·obtain ⟨HW,HC,v66,v70,v75,ha,h0,h4,h9⟩:=hI;rw[ha] at hG;clear ha a1;have u0:=dn_un hu;have u4:dn D 4=false:=by cases e:dn D 4;rfl;have:=HC.o e;rw[u0] at this;cases this
         have HU:=ax u4;clear u0 u4;refine hG ?_;clear hG hd;(try simp only[zz]);go_simp;have hB2:Below w8.heap.size w8 (w'.alloc (.cells #[] tA)):=HW.o.alloc HW.o.size _;have hBw:Below w'.heap.size w' (w'.alloc (.cells #[] tA)):=bbox (Below.refl _ _) _;have hcc:=(HXV.o.bz hB2).cl (k:=0) (by simp);simp only[Nat.zero_mul,Nat.add_zero,Nat.zero_add,List.getElem_cons_zero] at hcc;refine hK.out _ _ ⟨(kx.nz hB2).cell,hcc⟩ ⟨hB2,fun _=>dn_self hu,.slice (some ⟨w'.heap.size,0,none⟩) 0 0,v70,v75,rfl,fun _ _=>⟨⟨_,rfl⟩,(AtomsO.empty w').bq HW.o.size⟩,fun h=>?_,fun h=>?_⟩
         ·rw[dn_ne (by decide)] at h;rw[HU.o] at h;cases h
         ·rw[dn_ne (by decide)] at h;obtain ⟨y,e,hk,-⟩:=h9.o h;exact ⟨y,e,hk.alloc _,fun _ _ e2=>by have:=hk.lt;simp[Value.ownBlock] at e2;omega⟩
        ·obtain ⟨HW,HC,v66,v70,v75,ha,h0,h4,h9⟩:=hI;rw[ha] at hG;clear ha a1;have u4:=dn_un hu;have t0:dn D 0=true:=hd ⟨0,.data⟩ (by simp) (by decide);obtain ⟨⟨y,rfl⟩,o⟩:=h0.o t0 u4;have HO:=ax o;have HU:=ax (And.intro u4 t0);clear u4 t0 o h0 hd;refine hG ?_;clear hG;(try simp only[zz]);rw[if_pos (by simp[Region.wanted])];refine wp_appAL (base:=w8.heap.size) (xs:=[]) (ys:=tl) _ _ rfl rfl HO.o rfl (Rd.tailA (HXV.o.bz HW.o)) (by simp;omega) HW.o.size ?_;intro A' c' w2 o2 hg2 hB2;simp only[List.nil_append] at o2 ⊢;have hB3:Below w8.heap.size w8 w2:=HW.o.trans hB2;have hcc:=(HXV.o.bz hB3).cl (k:=0) (by simp);simp only[Nat.zero_mul,Nat.add_zero,Nat.zero_add,List.getElem_cons_zero] at hcc;refine hK.out _ _ ⟨(kx.nz hB3).cell,hcc⟩ ⟨hB3,fun _=>?_,.slice (some ⟨y,0,none⟩) 0 0,.slice A' tl.length c',v75,rfl,fun _ h=>?_,fun _=>⟨⟨A',c',rfl⟩,o2⟩,fun h=>?_⟩
         ·rw[dn_ne (by decide)];exact HU.o.2
         ·rw[dn_self hu] at h;cases h
         ·rw[dn_ne (by decide)] at h;obtain ⟨z,e,hk,hne⟩:=h9.o h;exact ⟨z,e,hk.grown hg2 (fun e2=>hne HU.o.2 HU.o.1 e2.symm),fun _ h2=>by rw[dn_self hu] at h2;cases h2⟩
        ·obtain ⟨HW,HC,v66,v70,v75,ha,h0,h4,h9⟩:=hI;rw[ha] at hG;clear ha a1;refine hG ?_;clear hG hd;(try simp only[zz]);go_simp;have hB2:Below w8.heap.size w8 (w'.alloc (.cells #[.int .i64 x0.kind,.int .i64 x0.a,.int .i64 x0.b] tA)):=HW.o.alloc HW.o.size _;have hBw:Below w'.heap.size w' (w'.alloc (.cells #[.int .i64 x0.kind,.int .i64 x0.a,.int .i64 x0.b] tA)):=bbox (Below.refl _ _) _;have hcc:=(HXV.o.bz hB2).cl (k:=0) (by simp);simp only[Nat.zero_mul,Nat.add_zero,Nat.zero_add,List.getElem_cons_zero] at hcc;refine hK.out _ _ ⟨(kx.nz hB2).cell,hcc⟩ ⟨hB2,fun h=>?_,v66,v70,.slice (some ⟨w'.heap.size,0,none⟩) 1 1,rfl,fun h h'=>?_,fun h=>?_,fun _=>⟨_,rfl,Blk.new _ _ _,fun h h' e=>?_⟩⟩
         ·rw[dn_ne (by decide)] at h ⊢;exact HC.o h
         ·rw[dn_ne (by decide)] at h h';exact ⟨(h0.o h h').1,(h0.o h h').2.bz hBw⟩
         ·rw[dn_ne (by decide)] at h;exact ⟨(h4.o h).1,(h4.o h).2.bz hBw⟩
         ·rw[dn_ne (by decide)] at h h';have:=((h0.o h h').2.1.lt _ e).2;omega
       case fin=>
        rintro a1 w9 aH ⟨HW,-,v66,v70,v75,rfl,-,h4,h9⟩;obtain ⟨⟨A9,c9,rfl⟩,o9⟩:=h4.o (by decide);obtain ⟨y9,rfl,ky9,-⟩:=h9.o (by decide);have HO9:=ax o9;clear o9 h4 h9;(try simp only[zz]);refine rdc 10 rfl fun K hK=>?_;skip;(refine stepAL (base:=w8.heap.size) (xs:=tl) (ys:=[x0]) rfl _ _ rfl rfl HO9.o rfl (AtomsV.one (f:=x0) ky9) (by simp;omega) HW.o.size ?_;intro A10 c10 w10 o10 hg10 hB10;have hB11:Below w8.heap.size w8 w10:=HW.o.trans hB10;have hcc:=(HXV.o.bz hB11).cl (k:=0) (by simp);simp only[Nat.zero_mul,Nat.add_zero,Nat.zero_add,List.getElem_cons_zero] at hcc);refine hK.out _ _ (⟨(kx.nz hB11).cell,hcc⟩) ?_;clear aH hK K;intro aH;(try simp only[zz]);rw[List.length_append,List.length_singleton] at o10;have HO10:=ax o10;have hsz8:=HF.o.size;have kx10:=kx.nz hB11;have k110:=k1.nz hB11;have HF10:=ax (HF.o.go hB11);have HR10:=ax (HR.o.bz hB11);have HFO10:=ax (HFO.o.bz hB11);clear o10 hg10 hB10 HW HO9 ky9 HO2 kx k1 HF HR HFO qk1 rk1 lk1 qkx rkx lkx z0 z1 z2;(replace qk110:=k110.cell;replace rk110:=k110.frozen;replace lk110:=k110.lt;replace qkx10:=kx10.z);refine tk2 11 rfl aH (h:=?_);(try simp only[zz]);refine rdc 12 rfl fun K hK=>?_;go_simp;refine hK.out _ _ (⟨kx10.cell,hcc⟩) (fun aH=>?_);clear hK K;refine wpAnyH_done (by kernel_rfl) ?_ _;unfold lastQ;go_simp;refine NoPanic.normal ?_;have hne:X≠w.heap.size+1:=by omega
        have kx11:=kx10.set_ 1 (.slice A10 (tl.length+1) c10);have k111:=k110.far (p:=⟨X,1,none⟩) (by simp only;omega) (.slice A10 (tl.length+1) c10);have HO11:=ax (HO10.o.setT kx10 (by decide) 1 (.slice A10 (tl.length+1) c10));have HFO11:=ax (HFO10.o.setT kx10 (by decide) 1 (.slice A10 (tl.length+1) c10));have HR11:=ax (HR10.o.set_ (q:=⟨X,1,none⟩) (by simp only;omega) (.slice A10 (tl.length+1) c10));have HF11:=ax (HF10.o.set_ (p:=⟨X,1,none⟩) (Or.inr (by simp only;omega)) (.slice A10 (tl.length+1) c10));clear hcc aH;(go_wp2_with fail)
        first
        | (refine bodyPost_ret (v:=.agg #[.slice (some ⟨gf,0,none⟩) ([]:List Fct).length 0,.slice A10 (tl.length+1) c10]) (by simp[results,Tryz.results101,go_sem,qk110]) rfl ⟨_,rfl,⟨([]:List Fct),tl++[x0]⟩,⟨(some ⟨gf,0,none⟩),0,A10,c10,by simp,?_,?_⟩,hflN,by simp;omega,q,?_,by omega,?_⟩)
        | (refine bodyPost_ret (v:=.agg #[.slice (some ⟨gf,0,none⟩) ([]:List Fct).length 0,.slice A10 (tl.length+1) c10]) (by simp[results,Tryz.results101,go_sem,qk110]) rfl ⟨_,⟨([]:List Fct),tl++[x0]⟩,q,rfl,⟨(some ⟨gf,0,none⟩),0,A10,c10,by simp,?_,?_⟩,hflN,by simp;omega,?_,by omega,?_⟩)
        ·exact HREL.o.rj ((HFO11.o.setT k111 (by decide) 0 _).setT (k111.set_ 0 _) (by decide) 1 _)
        ·exact (((((HO11.o.bq (base':=w.heap.size) (by omega)).setT k111 (by decide) 0 _).setT (k111.set_ 0 _) (by decide) 1 _)).reads2)
        ·exact (HR11.o.set_ (q:=⟨w.heap.size+1,0,none⟩) (by simp only;omega) _).set_ (q:=⟨w.heap.size+1,1,none⟩) (by simp only;omega) _
        ·exact (HF11.o.set_ (p:=⟨w.heap.size+1,0,none⟩) (Or.inr (by simp only;omega)) _).set_ (p:=⟨w.heap.size+1,1,none⟩) (Or.inr (by simp only;omega)) _
      have hm8b:((m8:Int) == 0)=false:=by simpa using hm80
      clear hm80 hm8;have hne:X≠w.heap.size+1:=by omega
      go_wp2_with fail
      first
      | (refine bodyPost_ret (v:=.agg #[.slice (some ⟨gf,0,none⟩) ([]:List Fct).length 0,.slice (some ⟨ga,0,none⟩) ys.length d1]) (by simp[results,Tryz.results101,go_sem,qk1]) rfl ⟨_,rfl,⟨([]:List Fct),ys⟩,⟨(some ⟨gf,0,none⟩),0,(some ⟨ga,0,none⟩),d1,rfl,?_,?_⟩,hflN,hxl,q,?_,by omega,?_⟩)
      | (refine bodyPost_ret (v:=.agg #[.slice (some ⟨gf,0,none⟩) ([]:List Fct).length 0,.slice (some ⟨ga,0,none⟩) ys.length d1]) (by simp[results,Tryz.results101,go_sem,qk1]) rfl ⟨_,⟨([]:List Fct),ys⟩,q,rfl,⟨(some ⟨gf,0,none⟩),0,(some ⟨ga,0,none⟩),d1,rfl,?_,?_⟩,hflN,hxl,?_,by omega,?_⟩)
      ·exact HREL.o.rj ((HFO.o.setT k1 (by decide) 0 _).setT (k1.set_ 0 _) (by decide) 1 _)
      ·exact ((((HO2.o.setT k1 (by decide) 0 _).setT (k1.set_ 0 _) (by decide) 1 _)).readsI).2
      ·exact (HR.o.set_ (q:=⟨w.heap.size+1,0,none⟩) (by simp only;omega) _).set_ (q:=⟨w.heap.size+1,1,none⟩) (by simp only;omega) _
      ·exact (HF.o.set_ (p:=⟨w.heap.size+1,0,none⟩) (Or.inr (by simp only;omega)) _).set_ (p:=⟨w.heap.size+1,1,none⟩) (Or.inr (by simp only;omega)) _
     have hm6b:((m6:Int) == 0)=false:=by simpa using hm60
     clear hm60 hm6;by_cases hx1:xs.length≤1
     ·have hx1i:¬(1:Int)<(xs.length:Int):=by omega
      have hne:X≠w.heap.size+1:=by omega
      go_wp2_with fail
      first
      | (refine bodyPost_ret (v:=.agg #[.slice (some ⟨gf,0,none⟩) ([]:List Fct).length 0,.slice G xs.length d1]) (by simp[results,Tryz.results101,go_sem,qk1]) rfl ⟨_,rfl,⟨([]:List Fct),xs⟩,⟨(some ⟨gf,0,none⟩),0,G,d1,rfl,?_,?_⟩,hflN,hxl,q,?_,by omega,?_⟩)
      | (refine bodyPost_ret (v:=.agg #[.slice (some ⟨gf,0,none⟩) ([]:List Fct).length 0,.slice G xs.length d1]) (by simp[results,Tryz.results101,go_sem,qk1]) rfl ⟨_,⟨([]:List Fct),xs⟩,q,rfl,⟨(some ⟨gf,0,none⟩),0,G,d1,rfl,?_,?_⟩,hflN,hxl,?_,by omega,?_⟩)
      ·exact HREL.o.rj ((HFO.o.setT k1 (by decide) 0 _).setT (k1.set_ 0 _) (by decide) 1 _)
      ·exact ((((HO2.o.setT k1 (by decide) 0 _).setT (k1.set_ 0 _) (by decide) 1 _)).readsI).2
      ·exact (HR.o.set_ (q:=⟨w.heap.size+1,0,none⟩) (by simp only;omega) _).set_ (q:=⟨w.heap.size+1,1,none⟩) (by simp only;omega) _
      ·exact (HF.o.set_ (p:=⟨w.heap.size+1,0,none⟩) (Or.inr (by simp only;omega)) _).set_ (p:=⟨w.heap.size+1,1,none⟩) (Or.inr (by simp only;omega)) _
     have hx1i:(1:Int)<(xs.length:Int):=by omega
     (go_wp2_with fail);refine (c_pick g q 3 _ HR.o (by omega)).mono ?_;rintro e w8 ⟨m8,rfl,hm8,hR,hF⟩;replace k1:=k1.fr hF (by omega);replace kx:=kx.fr hF (by omega);replace HF:=ax (HF.o.trans hF);replace HFO:=ax (HFO.o.fr hF hlt);replace HO2:=ax (HO2.o.fr hF hlt);replace HR:=ax hR;replace hq:q+1≤p+4:=by omega
     generalize q+1=q at HR hq;clear hR hF;(replace qk1:=k1.cell;replace rk1:=k1.frozen;replace lk1:=k1.lt;replace qkx:=kx.cell;replace rkx:=kx.frozen;replace lkx:=kx.lt);by_cases hm80:(m8:Int)=0
     ·have hm8b:((m8:Int) == 0)=true:=by simpa using hm80
      clear hm80 hm8
      obtain ⟨x0,tl,rfl⟩:∃ x0 tl,xs=x0 :: tl:=by
       cases xs with
       | nil=>simp at hx1i
       | cons x0 tl=>exact ⟨x0,tl,rfl⟩
      obtain ⟨ga,cur,-,rfl,hga,kg,-⟩:=HO2.o.open_ (k:=0) (by simp);have hcap:(x0 :: tl).length≤d1:=AtomsO.capL HO2.o;have hd1:1<d1:=by simp at hcap hx1i;omega
      have hd2:¬d1 - 1=0:=by omega
      have hd3:d1≠1:=by omega
      have hti:(0:Int)<(tl.length:Int)+1:=by omega
      have hti1:(1:Int)≤(tl.length:Int)+1:=by omega
      have htl:tl.length≤19:=by simp at hxl;omega
      have HXV:=ax (HO2.o.readsI).2;have hc3:=HXV.o.cl (k:=0) (by simp);obtain ⟨z0,z1,z2⟩:=hc3;simp only[Nat.zero_mul,Nat.add_zero,Nat.zero_add,List.getElem_cons_zero] at z0 z1 z2;clear kg hga hcap;(go_wp2_with fail);refine wp_region_noPanic ?_;refine wp_region_last' (S:=(fun w'=>(∀ i,w'.cell? ⟨X,i,none⟩=#[.slice (some ⟨gf,0,none⟩) ([]:List Fct).length 0,.slice (some ⟨ga,0,none⟩) (x0 :: tl).length d1][i]?)∧w'.cell? ⟨ga,0,none⟩=some (.int .i64 x0.kind)∧w'.cell? ⟨ga,1,none⟩=some (.int .i64 x0.a)∧w'.cell? ⟨ga,2,none⟩=some (.int .i64 x0.b))) (by simp) (by kernel_rfl) (by kernel_rfl) (⟨Blk.cell blks,z0,z1,z2⟩) (fun aH=>?_);simp only[List.dropLast,List.getLast,nopOf,List.cons_append,List.nil_append,List.length_cons,List.length_nil,Nat.zero_add,Nat.reduceAdd];refine tk2 1 rfl aH (h:=tk2 2 rfl aH (h:=tk2 3 rfl aH (h:=?_)));(try simp only[zz]);refine tk2 5 rfl aH (h:=tk2 6 rfl aH (h:=tk2 7 rfl aH (h:=?_)));(try simp only[zz]);refine tk2 8 rfl aH (h:=?_);(try simp only[zz])
      refine wpAnyH_par [0,4,9] #[true,true,true,true,true,true,true,true,true,true,false,false,false] 3 (by kernel_rfl) aH
       (fun a0 D a1 w'=>aJ (Below w8.heap.size w8 w')∧aJ (dn D 4=true→dn D 0=true)∧
        ∃ v66 v70 v75,a1=((a0.put (some 66) v66).put (some 70) v70).put (some 75) v75∧
         aJ (dn D 0=true→dn D 4=false→(∃ y,v66=.slice (some ⟨y,0,none⟩) 0 0)∧AtomsO w' w8.heap.size v66 [])∧
         aJ (dn D 4=true→(∃ A c,v70=.slice A tl.length c)∧AtomsO w' w8.heap.size v70 tl)∧
         aJ (dn D 9=true→∃ y,v75=.slice (some ⟨y,0,none⟩) 1 1∧Blk w' y tA #[.int .i64 x0.kind,.int .i64 x0.a,.int .i64 x0.b]∧(dn D 0=true→dn D 4=false→v66.ownBlock≠some y))) ?start ?steps ?fin
      case start=>exact ⟨(Below.refl _ w8).drew,fun h=>absurd h (by decide),undef,undef,undef,rfl,fun h=>absurd h (by decide),fun h=>absurd h (by decide),fun h=>absurd h (by decide)⟩
      case steps=>
       refine ParSteps.cons rfl (fun D a1 w' hu hd hI hS K' hK G' hG=>?_) (ParSteps.cons rfl (fun D a1 w' hu hd hI hS K' hK G' hG=>?_) (ParSteps.cons rfl (fun D a1 w' hu hd hI hS K' hK G' hG=>?_) ParSteps.nil))
       ·obtain ⟨HW,HC,v66,v70,v75,ha,h0,h4,h9⟩:=hI;rw[ha] at hG;clear ha a1;have u0:=dn_un hu;have u4:dn D 4=false:=by cases e:dn D 4;rfl;have:=HC.o e;rw[u0] at this;cases this
        have HU:=ax u4;clear u0 u4;refine hG ?_;clear hG hd;(try simp only[zz]);go_simp;have hB2:Below w8.heap.size w8 (w'.alloc (.cells #[] tA)):=HW.o.alloc HW.o.size _;have hBw:Below w'.heap.size w' (w'.alloc (.cells #[] tA)):=bbox (Below.refl _ _) _;have hcc:=(HXV.o.bz hB2).cl (k:=0) (by simp);simp only[Nat.zero_mul,Nat.add_zero,Nat.zero_add,List.getElem_cons_zero] at hcc;refine hK.out _ _ ⟨(kx.nz hB2).cell,hcc⟩ ⟨hB2,fun _=>dn_self hu,.slice (some ⟨w'.heap.size,0,none⟩) 0 0,v70,v75,rfl,fun _ _=>⟨⟨_,rfl⟩,(AtomsO.empty w').bq HW.o.size⟩,fun h=>?_,fun h=>?_⟩
        ·rw[dn_ne (by decide)] at h;rw[HU.o] at h;cases h
        ·rw[dn_ne (by decide)] at h;obtain ⟨y,e,hk,-⟩:=h9.o h;exact ⟨y,e,hk.alloc _,fun _ _ e2=>by have:=hk.lt;simp[Value.ownBlock] at e2;omega⟩
       ·obtain ⟨HW,HC,v66,v70,v75,ha,h0,h4,h9⟩:=hI;rw[ha] at hG;clear ha a1;have u4:=dn_un hu;have t0:dn D 0=true:=hd ⟨0,.data⟩ (by simp) (by decide);obtain ⟨⟨y,rfl⟩,o⟩:=h0.o t0 u4;have HO:=ax o;have HU:=ax (And.intro u4 t0);clear u4 t0 o h0 hd;refine hG ?_;clear hG;(try simp only[zz]);rw[if_pos (by simp[Region.wanted])];refine wp_appAL (base:=w8.heap.size) (xs:=[]) (ys:=tl) _ _ rfl rfl HO.o rfl (Rd.tailA (HXV.o.bz HW.o)) (by simp;omega) HW.o.size ?_;intro A' c' w2 o2 hg2 hB2;simp only[List.nil_append] at o2 ⊢;have hB3:Below w8.heap.size w8 w2:=HW.o.trans hB2;have hcc:=(HXV.o.bz hB3).cl (k:=0) (by simp);simp only[Nat.zero_mul,Nat.add_zero,Nat.zero_add,List.getElem_cons_zero] at hcc;refine hK.out _ _ ⟨(kx.nz hB3).cell,hcc⟩ ⟨hB3,fun _=>?_,.slice (some ⟨y,0,none⟩) 0 0,.slice A' tl.length c',v75,rfl,fun _ h=>?_,fun _=>⟨⟨A',c',rfl⟩,o2⟩,fun h=>?_⟩
        ·rw[dn_ne (by decide)];exact HU.o.2
        ·rw[dn_self hu] at h;cases h
        ·rw[dn_ne (by decide)] at h;obtain ⟨z,e,hk,hne⟩:=h9.o h;exact ⟨z,e,hk.grown hg2 (fun e2=>hne HU.o.2 HU.o.1 e2.symm),fun _ h2=>by rw[dn_self hu] at h2;cases h2⟩
       ·obtain ⟨HW,HC,v66,v70,v75,ha,h0,h4,h9⟩:=hI;rw[ha] at hG;clear ha a1;refine hG ?_;clear hG hd;(try simp only[zz]);go_simp;have hB2:Below w8.heap.size w8 (w'.alloc (.cells #[.int .i64 x0.kind,.int .i64 x0.a,.int .i64 x0.b] tA)):=HW.o.alloc HW.o.size _;have hBw:Below w'.heap.size w' (w'.alloc (.cells #[.int .i64 x0.kind,.int .i64 x0.a,.int .i64 x0.b] tA)):=bbox (Below.refl _ _) _;have hcc:=(HXV.o.bz hB2).cl (k:=0) (by simp);simp only[Nat.zero_mul,Nat.add_zero,Nat.zero_add,List.getElem_cons_zero] at hcc;refine hK.out _ _ ⟨(kx.nz hB2).cell,hcc⟩ ⟨hB2,fun h=>?_,v66,v70,.slice (some ⟨w'.heap.size,0,none⟩) 1 1,rfl,fun h h'=>?_,fun h=>?_,fun _=>⟨_,rfl,Blk.new _ _ _,fun h h' e=>?_⟩⟩
        ·rw[dn_ne (by decide)] at h ⊢;exact HC.o h
        ·rw[dn_ne (by decide)] at h h';exact ⟨(h0.o h h').1,(h0.o h h').2.bz hBw⟩
        ·rw[dn_ne (by decide)] at h;exact ⟨(h4.o h).1,(h4.o h).2.bz hBw⟩
        ·rw[dn_ne (by decide)] at h h';have:=((h0.o h h').2.1.lt _ e).2;omega
      case fin=>
       rintro a1 w9 aH ⟨HW,-,v66,v70,v75,rfl,-,h4,h9⟩;obtain ⟨⟨A9,c9,rfl⟩,o9⟩:=h4.o (by decide);obtain ⟨y9,rfl,ky9,-⟩:=h9.o (by decide);have HO9:=ax o9;clear o9 h4 h9;(try simp only[zz]);refine rdc 10 rfl fun K hK=>?_;skip;(refine stepAL (base:=w8.heap.size) (xs:=tl) (ys:=[x0]) rfl _ _ rfl rfl HO9.o rfl (AtomsV.one (f:=x0) ky9) (by simp;omega) HW.o.size ?_;intro A10 c10 w10 o10 hg10 hB10;have hB11:Below w8.heap.size w8 w10:=HW.o.trans hB10;have hcc:=(HXV.o.bz hB11).cl (k:=0) (by simp);simp only[Nat.zero_mul,Nat.add_zero,Nat.zero_add,List.getElem_cons_zero] at hcc);refine hK.out _ _ (⟨(kx.nz hB11).cell,hcc⟩) ?_;clear aH hK K;intro aH;(try simp only[zz]);rw[List.length_append,List.length_singleton] at o10;have HO10:=ax o10;have hsz8:=HF.o.size;have kx10:=kx.nz hB11;have k110:=k1.nz hB11;have HF10:=ax (HF.o.go hB11);have HR10:=ax (HR.o.bz hB11);have HFO10:=ax (HFO.o.bz hB11);clear o10 hg10 hB10 HW HO9 ky9 HO2 kx k1 HF HR HFO qk1 rk1 lk1 qkx rkx lkx z0 z1 z2;(replace qk110:=k110.cell;replace rk110:=k110.frozen;replace lk110:=k110.lt;replace qkx10:=kx10.z);refine tk2 11 rfl aH (h:=?_);(try simp only[zz]);refine rdc 12 rfl fun K hK=>?_;go_simp;refine hK.out _ _ (⟨kx10.cell,hcc⟩) (fun aH=>?_);clear hK K;refine wpAnyH_done (by kernel_rfl) ?_ _;unfold lastQ;go_simp;refine NoPanic.normal ?_;have hne:X≠w.heap.size+1:=by omega
       have kx11:=kx10.set_ 1 (.slice A10 (tl.length+1) c10);have k111:=k110.far (p:=⟨X,1,none⟩) (by simp only;omega) (.slice A10 (tl.length+1) c10);have HO11:=ax (HO10.o.setT kx10 (by decide) 1 (.slice A10 (tl.length+1) c10));have HFO11:=ax (HFO10.o.setT kx10 (by decide) 1 (.slice A10 (tl.length+1) c10));have HR11:=ax (HR10.o.set_ (q:=⟨X,1,none⟩) (by simp only;omega) (.slice A10 (tl.length+1) c10));have HF11:=ax (HF10.o.set_ (p:=⟨X,1,none⟩) (Or.inr (by simp only;omega)) (.slice A10 (tl.length+1) c10));clear hcc aH;(go_wp2_with fail)
       first
       | (refine bodyPost_ret (v:=.agg #[.slice (some ⟨gf,0,none⟩) ([]:List Fct).length 0,.slice A10 (tl.length+1) c10]) (by simp[results,Tryz.results101,go_sem,qk110]) rfl ⟨_,rfl,⟨([]:List Fct),tl++[x0]⟩,⟨(some ⟨gf,0,none⟩),0,A10,c10,by simp,?_,?_⟩,hflN,by simp;omega,q,?_,by omega,?_⟩)
       | (refine bodyPost_ret (v:=.agg #[.slice (some ⟨gf,0,none⟩) ([]:List Fct).length 0,.slice A10 (tl.length+1) c10]) (by simp[results,Tryz.results101,go_sem,qk110]) rfl ⟨_,⟨([]:List Fct),tl++[x0]⟩,q,rfl,⟨(some ⟨gf,0,none⟩),0,A10,c10,by simp,?_,?_⟩,hflN,by simp;omega,?_,by omega,?_⟩)
       ·exact HREL.o.rj ((HFO11.o.setT k111 (by decide) 0 _).setT (k111.set_ 0 _) (by decide) 1 _)
       ·exact (((((HO11.o.bq (base':=w.heap.size) (by omega)).setT k111 (by decide) 0 _).setT (k111.set_ 0 _) (by decide) 1 _)).reads2)
       ·exact (HR11.o.set_ (q:=⟨w.heap.size+1,0,none⟩) (by simp only;omega) _).set_ (q:=⟨w.heap.size+1,1,none⟩) (by simp only;omega) _
       ·exact (HF11.o.set_ (p:=⟨w.heap.size+1,0,none⟩) (Or.inr (by simp only;omega)) _).set_ (p:=⟨w.heap.size+1,1,none⟩) (Or.inr (by simp only;omega)) _
     have hm8b:((m8:Int) == 0)=false:=by simpa using hm80
     clear hm80 hm8;have hne:X≠w.heap.size+1:=by omega
     go_wp2_with fail
     first
     | (refine bodyPost_ret (v:=.agg #[.slice (some ⟨gf,0,none⟩) ([]:List Fct).length 0,.slice G xs.length d1]) (by simp[results,Tryz.results101,go_sem,qk1]) rfl ⟨_,rfl,⟨([]:List Fct),xs⟩,⟨(some ⟨gf,0,none⟩),0,G,d1,rfl,?_,?_⟩,hflN,hxl,q,?_,by omega,?_⟩)
     | (refine bodyPost_ret (v:=.agg #[.slice (some ⟨gf,0,none⟩) ([]:List Fct).length 0,.slice G xs.length d1]) (by simp[results,Tryz.results101,go_sem,qk1]) rfl ⟨_,⟨([]:List Fct),xs⟩,q,rfl,⟨(some ⟨gf,0,none⟩),0,G,d1,rfl,?_,?_⟩,hflN,hxl,?_,by omega,?_⟩)
     ·exact HREL.o.rj ((HFO.o.setT k1 (by decide) 0 _).setT (k1.set_ 0 _) (by decide) 1 _)
     ·exact ((((HO2.o.setT k1 (by decide) 0 _).setT (k1.set_ 0 _) (by decide) 1 _)).readsI).2
     ·exact (HR.o.set_ (q:=⟨w.heap.size+1,0,none⟩) (by simp only;omega) _).set_ (q:=⟨w.heap.size+1,1,none⟩) (by simp only;omega) _
     ·exact (HF.o.set_ (p:=⟨w.heap.size+1,0,none⟩) (Or.inr (by simp only;omega)) _).set_ (p:=⟨w.heap.size+1,1,none⟩) (Or.inr (by simp only;omega)) _
    have he2:1<e1:=by simp at hcapF;omega
    have he3:¬e1 - 1=0:=by omega
    clear hcapF;have hflN:ft0.length≤20:=by (first|(simp;done)|(simp at hfl ⊢;omega))
    have hXw1:w.heap.size+1≠X:=by omega
    have HREL:aJ (FRel (some ⟨gf,0,none⟩) (f :: ft0) (some ⟨gf,3,none⟩) ft0):=Or.inr (Or.inl ⟨gf,f,rfl,rfl,rfl⟩);have kx0:=kx;replace HFO:=ax (HFO.o.setT kx0 (by decide) 0 (.slice (some ⟨gf,3,none⟩) ft0.length (e1 - 1)));replace HO2:=ax (HO2.o.setT kx0 (by decide) 0 (.slice (some ⟨gf,3,none⟩) ft0.length (e1 - 1)));replace HR:=ax (HR.o.set_ (q:=⟨X,0,none⟩) (by simp only;omega) (.slice (some ⟨gf,3,none⟩) ft0.length (e1 - 1)));replace HF:=ax (HF.o.set_ (p:=⟨X,0,none⟩) (Or.inr (by simp only;omega)) (.slice (some ⟨gf,3,none⟩) ft0.length (e1 - 1)));replace k1:=k1.far (p:=⟨X,0,none⟩) (by simp only;omega) (.slice (some ⟨gf,3,none⟩) ft0.length (e1 - 1));replace kx:Blk (w5.setCell ⟨X,0,none⟩ (.slice (some ⟨gf,3,none⟩) ft0.length (e1 - 1))) X tAs #[(.slice (some ⟨gf,3,none⟩) ft0.length (e1 - 1)),.slice G xs.length d1]:=by simpa using kx0.set_ 0 (.slice (some ⟨gf,3,none⟩) ft0.length (e1 - 1))
    clear kx0;by_cases hx0:xs.length=0
    ·have hx0i:¬(0:Int)<(xs.length:Int):=by omega
     have hx1i:¬(1:Int)<(xs.length:Int):=by omega
     clear hx0;have hne:X≠w.heap.size+1:=by omega
     go_wp2_with fail
     first
     | (refine bodyPost_ret (v:=.agg #[.slice (some ⟨gf,3,none⟩) ft0.length (e1 - 1),.slice G xs.length d1]) (by simp[results,Tryz.results101,go_sem,qk1]) rfl ⟨_,rfl,⟨ft0,xs⟩,⟨(some ⟨gf,3,none⟩),(e1 - 1),G,d1,rfl,?_,?_⟩,hflN,hxl,q,?_,by omega,?_⟩)
     | (refine bodyPost_ret (v:=.agg #[.slice (some ⟨gf,3,none⟩) ft0.length (e1 - 1),.slice G xs.length d1]) (by simp[results,Tryz.results101,go_sem,qk1]) rfl ⟨_,⟨ft0,xs⟩,q,rfl,⟨(some ⟨gf,3,none⟩),(e1 - 1),G,d1,rfl,?_,?_⟩,hflN,hxl,?_,by omega,?_⟩)
     ·exact HREL.o.rj ((HFO.o.setT k1 (by decide) 0 _).setT (k1.set_ 0 _) (by decide) 1 _)
     ·exact ((((HO2.o.setT k1 (by decide) 0 _).setT (k1.set_ 0 _) (by decide) 1 _)).readsI).2
     ·exact (HR.o.set_ (q:=⟨w.heap.size+1,0,none⟩) (by simp only;omega) _).set_ (q:=⟨w.heap.size+1,1,none⟩) (by simp only;omega) _
     ·exact (HF.o.set_ (p:=⟨w.heap.size+1,0,none⟩) (Or.inr (by simp only;omega)) _).set_ (p:=⟨w.heap.size+1,1,none⟩) (Or.inr (by simp only;omega)) _
    have hx0i:(0:Int)<(xs.length:Int):=by omega
    (go_wp2_with fail);refine (c_pick g q 3 _ HR.o (by omega)).mono ?_;rintro e w6 ⟨m6,rfl,hm6,hR,hF⟩;replace k1:=k1.fr hF (by omega);replace kx:=kx.fr hF (by omega);replace HF:=ax (HF.o.trans hF);replace HFO:=ax (HFO.o.fr hF hlt);replace HO2:=ax (HO2.o.fr hF hlt);replace HR:=ax hR;replace hq:q+1≤p+3:=by omega
    generalize q+1=q at HR hq;clear hR hF;(replace qk1:=k1.cell;replace rk1:=k1.frozen;replace lk1:=k1.lt;replace qkx:=kx.cell;replace rkx:=kx.frozen;replace lkx:=kx.lt);by_cases hm60:(m6:Int)=0
    ·have hm6b:((m6:Int) == 0)=true:=by simpa using hm60
     clear hm60 hm6;(go_wp2_with fail);refine (c_pick g q (xs.length:Int) _ HR.o (by omega)).mono ?_;rintro e w7 ⟨m7,rfl,hm7,hR,hF⟩;replace k1:=k1.fr hF (by omega);replace kx:=kx.fr hF (by omega);replace HF:=ax (HF.o.trans hF);replace HFO:=ax (HFO.o.fr hF hlt);replace HO2:=ax (HO2.o.fr hF hlt);replace HR:=ax hR;replace hq:q+1≤p+4:=by omega
     generalize q+1=q at HR hq;clear hR hF;(replace qk1:=k1.cell;replace rk1:=k1.frozen;replace lk1:=k1.lt;replace qkx:=kx.cell;replace rkx:=kx.frozen;replace lkx:=kx.lt);have hm7l:m7<xs.length:=by omega
     obtain ⟨ga,cur,-,rfl,hga,kg,hsz3,hc0,hc1,hc2,hset⟩:=HO2.o.open_ (k:=m7) hm7l;have qg:=(kg.cell (m7 * 3)).trans hc0;have rg:=kg.frozen;have lg:=kg.lt;obtain ⟨ok,hok⟩:∃ ok,ok=(xs[m7]'hm7l).kind:=⟨_,rfl⟩;rw[←hok] at qg;have hm7i:(m7:Int)<(xs.length:Int):=by omega
     have hxg:X≠ga:=kx.ne_ kg (by decide);have h1g:w.heap.size+1≠ga:=k1.ne_ kg (by decide);clear hc0 hc1 hc2 hok hsz3 hm7;obtain ⟨ys,hys⟩:∃ ys,ys=xs.set m7 ⟨2,(xs[m7]'hm7l).a,(xs[m7]'hm7l).b⟩:=⟨_,rfl⟩;have hyl:ys.length=xs.length:=by rw[hys];simp
     have E0:=hset (m7 * 3) (.int .i64 2) ys (by rw[hys];exact encA_setK hm7l 2) hyl;rw[←hyl] at E0 kx hm7i hxl hx0i;have hga0:=kg;clear hset HO2 hys;have HO2:=ax E0;clear E0;replace HFO:=ax (HFO.o.setT kg (by decide) (m7 * 3) (.int .i64 2));replace HR:=ax (HR.o.set_ (q:=⟨ga,m7 * 3,none⟩) (by simp only;omega) (.int .i64 2));replace HF:=ax (HF.o.set_ (p:=⟨ga,m7 * 3,none⟩) (Or.inr hga) (.int .i64 2));(replace qk1:=k1.cell;replace rk1:=k1.frozen;replace lk1:=k1.lt;replace qkx:=kx.cell;replace rkx:=kx.frozen;replace lkx:=kx.lt);have qk17:=qk1;have qkx7:=qkx;have lk17:=lk1;have lkx7:=lkx;have rk17:=rk1;have rkx7:=rkx;replace k1:=k1.far (p:=⟨ga,m7 * 3,none⟩) h1g (.int .i64 2);replace kx:=kx.far (p:=⟨ga,m7 * 3,none⟩) hxg (.int .i64 2);have hgx:ga≠X:=fun e=>hxg e.symm;have hg1:ga≠w.heap.size+1:=fun e=>h1g e.symm;clear hyl hx0 hm7l;by_cases hx1:ys.length≤1
     ·have hx1i:¬(1:Int)<(ys.length:Int):=by omega
      have hne:X≠w.heap.size+1:=by omega
      go_wp2_with fail
      first
      | (refine bodyPost_ret (v:=.agg #[.slice (some ⟨gf,3,none⟩) ft0.length (e1 - 1),.slice (some ⟨ga,0,none⟩) ys.length d1]) (by simp[results,Tryz.results101,go_sem,qk17,lk17,h1g,hg1]) rfl ⟨_,rfl,⟨ft0,ys⟩,⟨(some ⟨gf,3,none⟩),(e1 - 1),(some ⟨ga,0,none⟩),d1,rfl,?_,?_⟩,hflN,hxl,q,?_,by omega,?_⟩)
      | (refine bodyPost_ret (v:=.agg #[.slice (some ⟨gf,3,none⟩) ft0.length (e1 - 1),.slice (some ⟨ga,0,none⟩) ys.length d1]) (by simp[results,Tryz.results101,go_sem,qk17,lk17,h1g,hg1]) rfl ⟨_,⟨ft0,ys⟩,q,rfl,⟨(some ⟨gf,3,none⟩),(e1 - 1),(some ⟨ga,0,none⟩),d1,rfl,?_,?_⟩,hflN,hxl,?_,by omega,?_⟩)
      ·exact HREL.o.rj ((HFO.o.setT k1 (by decide) 0 _).setT (k1.set_ 0 _) (by decide) 1 _)
      ·exact ((((HO2.o.setT k1 (by decide) 0 _).setT (k1.set_ 0 _) (by decide) 1 _)).readsI).2
      ·exact (HR.o.set_ (q:=⟨w.heap.size+1,0,none⟩) (by simp only;omega) _).set_ (q:=⟨w.heap.size+1,1,none⟩) (by simp only;omega) _
      ·exact (HF.o.set_ (p:=⟨w.heap.size+1,0,none⟩) (Or.inr (by simp only;omega)) _).set_ (p:=⟨w.heap.size+1,1,none⟩) (Or.inr (by simp only;omega)) _
     have hx1i:(1:Int)<(ys.length:Int):=by omega
     (go_wp2_with fail);refine (c_pick g q 3 _ HR.o (by omega)).mono ?_;rintro e w8 ⟨m8,rfl,hm8,hR,hF⟩;replace k1:=k1.fr hF (by omega);replace kx:=kx.fr hF (by omega);replace HF:=ax (HF.o.trans hF);replace HFO:=ax (HFO.o.fr hF hlt);replace HO2:=ax (HO2.o.fr hF hlt);replace HR:=ax hR;replace hq:q+1≤p+5:=by omega
     generalize q+1=q at HR hq;clear hR hF;(replace qk1:=k1.cell;replace rk1:=k1.frozen;replace lk1:=k1.lt;replace qkx:=kx.cell;replace rkx:=kx.frozen;replace lkx:=kx.lt);by_cases hm80:(m8:Int)=0
     ·have hm8b:((m8:Int) == 0)=true:=by simpa using hm80
      clear hm80 hm8
      obtain ⟨x0,tl,rfl⟩:∃ x0 tl,ys=x0 :: tl:=by
       cases ys with
       | nil=>simp at hx1i
       | cons x0 tl=>exact ⟨x0,tl,rfl⟩
      have hcap:(x0 :: tl).length≤d1:=AtomsO.capL HO2.o;have hd1:1<d1:=by simp at hcap hx1i;omega
      have hd2:¬d1 - 1=0:=by omega
      have hd3:d1≠1:=by omega
      have hti:(0:Int)<(tl.length:Int)+1:=by omega
      have hti1:(1:Int)≤(tl.length:Int)+1:=by omega
      have htl:tl.length≤19:=by simp at hxl;omega
      have HXV:=ax (HO2.o.readsI).2;have hc3:=HXV.o.cl (k:=0) (by simp);obtain ⟨z0,z1,z2⟩:=hc3;simp only[Nat.zero_mul,Nat.add_zero,Nat.zero_add,List.getElem_cons_zero] at z0 z1 z2;clear hcap;(go_wp2_with fail);refine wp_region_noPanic ?_;refine wp_region_last' (S:=(fun w'=>(∀ i,w'.cell? ⟨X,i,none⟩=#[.slice (some ⟨gf,3,none⟩) ft0.length (e1 - 1),.slice (some ⟨ga,0,none⟩) (x0 :: tl).length d1][i]?)∧w'.cell? ⟨ga,0,none⟩=some (.int .i64 x0.kind)∧w'.cell? ⟨ga,1,none⟩=some (.int .i64 x0.a)∧w'.cell? ⟨ga,2,none⟩=some (.int .i64 x0.b))) (by simp) (by kernel_rfl) (by kernel_rfl) (⟨Blk.cell blks,z0,z1,z2⟩) (fun aH=>?_);simp only[List.dropLast,List.getLast,nopOf,List.cons_append,List.nil_append,List.length_cons,List.length_nil,Nat.zero_add,Nat.reduceAdd];refine tk2 1 rfl aH (h:=tk2 2 rfl aH (h:=tk2 3 rfl aH (h:=?_)));(try simp only[zz]);refine tk2 5 rfl aH (h:=tk2 6 rfl aH (h:=tk2 7 rfl aH (h:=?_)));(try simp only[zz]);refine tk2 8 rfl aH (h:=?_);(try simp only[zz])
      refine wpAnyH_par [0,4,9] #[true,true,true,true,true,true,true,true,true,true,false,false,false] 3 (by kernel_rfl) aH
       (fun a0 D a1 w'=>aJ (Below w8.heap.size w8 w')∧aJ (dn D 4=true→dn D 0=true)∧
        ∃ v66 v70 v75,a1=((a0.put (some 66) v66).put (some 70) v70).put (some 75) v75∧
         aJ (dn D 0=true→dn D 4=false→(∃ y,v66=.slice (some ⟨y,0,none⟩) 0 0)∧AtomsO w' w8.heap.size v66 [])∧
         aJ (dn D 4=true→(∃ A c,v70=.slice A tl.length c)∧AtomsO w' w8.heap.size v70 tl)∧
         aJ (dn D 9=true→∃ y,v75=.slice (some ⟨y,0,none⟩) 1 1∧Blk w' y tA #[.int .i64 x0.kind,.int .i64 x0.a,.int .i64 x0.b]∧(dn D 0=true→dn D 4=false→v66.ownBlock≠some y))) ?start ?steps ?fin
      case start=>exact ⟨(Below.refl _ w8).drew,fun h=>absurd h (by decide),undef,undef,undef,rfl,fun h=>absurd h (by decide),fun h=>absurd h (by decide),fun h=>absurd h (by decide)⟩
      case steps=>
       refine ParSteps.cons rfl (fun D a1 w' hu hd hI hS K' hK G' hG=>?_) (ParSteps.cons rfl (fun D a1 w' hu hd hI hS K' hK G' hG=>?_) (ParSteps.cons rfl (fun D a1 w' hu hd hI hS K' hK G' hG=>?_) ParSteps.nil))
       ·obtain ⟨HW,HC,v66,v70,v75,ha,h0,h4,h9⟩:=hI;rw[ha] at hG;clear ha a1;have u0:=dn_un hu;have u4:dn D 4=false:=by cases e:dn D 4;rfl;have:=HC.o e;rw[u0] at this;cases this
        have HU:=ax u4;clear u0 u4;refine hG ?_;clear hG hd;(try simp only[zz]);go_simp;have hB2:Below w8.heap.size w8 (w'.alloc (.cells #[] tA)):=HW.o.alloc HW.o.size _;have hBw:Below w'.heap.size w' (w'.alloc (.cells #[] tA)):=bbox (Below.refl _ _) _;have hcc:=(HXV.o.bz hB2).cl (k:=0) (by simp);simp only[Nat.zero_mul,Nat.add_zero,Nat.zero_add,List.getElem_cons_zero] at hcc;refine hK.out _ _ ⟨(kx.nz hB2).cell,hcc⟩ ⟨hB2,fun _=>dn_self hu,.slice (some ⟨w'.heap.size,0,none⟩) 0 0,v70,v75,rfl,fun _ _=>⟨⟨_,rfl⟩,(AtomsO.empty w').bq HW.o.size⟩,fun h=>?_,fun h=>?_⟩
        ·rw[dn_ne (by decide)] at h;rw[HU.o] at h;cases h
        ·rw[dn_ne (by decide)] at h;obtain ⟨y,e,hk,-⟩:=h9.o h;exact ⟨y,e,hk.alloc _,fun _ _ e2=>by have:=hk.lt;simp[Value.ownBlock] at e2;omega⟩
       ·obtain ⟨HW,HC,v66,v70,v75,ha,h0,h4,h9⟩:=hI;rw[ha] at hG;clear ha a1;have u4:=dn_un hu;have t0:dn D 0=true:=hd ⟨0,.data⟩ (by simp) (by decide);obtain ⟨⟨y,rfl⟩,o⟩:=h0.o t0 u4;have HO:=ax o;have HU:=ax (And.intro u4 t0);clear u4 t0 o h0 hd;refine hG ?_;clear hG;(try simp only[zz]);rw[if_pos (by simp[Region.wanted])];refine wp_appAL (base:=w8.heap.size) (xs:=[]) (ys:=tl) _ _ rfl rfl HO.o rfl (Rd.tailA (HXV.o.bz HW.o)) (by simp;omega) HW.o.size ?_;intro A' c' w2 o2 hg2 hB2;simp only[List.nil_append] at o2 ⊢;have hB3:Below w8.heap.size w8 w2:=HW.o.trans hB2;have hcc:=(HXV.o.bz hB3).cl (k:=0) (by simp);simp only[Nat.zero_mul,Nat.add_zero,Nat.zero_add,List.getElem_cons_zero] at hcc;refine hK.out _ _ ⟨(kx.nz hB3).cell,hcc⟩ ⟨hB3,fun _=>?_,.slice (some ⟨y,0,none⟩) 0 0,.slice A' tl.length c',v75,rfl,fun _ h=>?_,fun _=>⟨⟨A',c',rfl⟩,o2⟩,fun h=>?_⟩
        ·rw[dn_ne (by decide)];exact HU.o.2
        ·rw[dn_self hu] at h;cases h
        ·rw[dn_ne (by decide)] at h;obtain ⟨z,e,hk,hne⟩:=h9.o h;exact ⟨z,e,hk.grown hg2 (fun e2=>hne HU.o.2 HU.o.1 e2.symm),fun _ h2=>by rw[dn_self hu] at h2;cases h2⟩
       ·obtain ⟨HW,HC,v66,v70,v75,ha,h0,h4,h9⟩:=hI;rw[ha] at hG;clear ha a1;refine hG ?_;clear hG hd;(try simp only[zz]);go_simp;have hB2:Below w8.heap.size w8 (w'.alloc (.cells #[.int .i64 x0.kind,.int .i64 x0.a,.int .i64 x0.b] tA)):=HW.o.alloc HW.o.size _;have hBw:Below w'.heap.size w' (w'.alloc (.cells #[.int .i64 x0.kind,.int .i64 x0.a,.int .i64 x0.b] tA)):=bbox (Below.refl _ _) _;have hcc:=(HXV.o.bz hB2).cl (k:=0) (by simp);simp only[Nat.zero_mul,Nat.add_zero,Nat.zero_add,List.getElem_cons_zero] at hcc;refine hK.out _ _ ⟨(kx.nz hB2).cell,hcc⟩ ⟨hB2,fun h=>?_,v66,v70,.slice (some ⟨w'.heap.size,0,none⟩) 1 1,rfl,fun h h'=>?_,fun h=>?_,fun _=>⟨_,rfl,Blk.new _ _ _,fun h h' e=>?_⟩⟩
        ·rw[dn_ne (by decide)] at h ⊢;exact HC.o h
        ·rw[dn_ne (by decide)] at h h';exact ⟨(h0.o h h').1,(h0.o h h').2.bz hBw⟩
        ·rw[dn_ne (by decide)] at h;exact ⟨(h4.o h).1,(h4.o h).2.bz hBw⟩
        ·rw[dn_ne (by decide)] at h h';have:=((h0.o h h').2.1.lt _ e).2;omega
      case fin=>
       rintro a1 w9 aH ⟨HW,-,v66,v70,v75,rfl,-,h4,h9⟩;obtain ⟨⟨A9,c9,rfl⟩,o9⟩:=h4.o (by decide);obtain ⟨y9,rfl,ky9,-⟩:=h9.o (by decide);have HO9:=ax o9;clear o9 h4 h9;(try simp only[zz]);refine rdc 10 rfl fun K hK=>?_;skip;(refine stepAL (base:=w8.heap.size) (xs:=tl) (ys:=[x0]) rfl _ _ rfl rfl HO9.o rfl (AtomsV.one (f:=x0) ky9) (by simp;omega) HW.o.size ?_;intro A10 c10 w10 o10 hg10 hB10;have hB11:Below w8.heap.size w8 w10:=HW.o.trans hB10;have hcc:=(HXV.o.bz hB11).cl (k:=0) (by simp);simp only[Nat.zero_mul,Nat.add_zero,Nat.zero_add,List.getElem_cons_zero] at hcc);refine hK.out _ _ (⟨(kx.nz hB11).cell,hcc⟩) ?_;clear aH hK K;intro aH;(try simp only[zz]);rw[List.length_append,List.length_singleton] at o10;have HO10:=ax o10;have hsz8:=HF.o.size;have kx10:=kx.nz hB11;have k110:=k1.nz hB11;have HF10:=ax (HF.o.go hB11);have HR10:=ax (HR.o.bz hB11);have HFO10:=ax (HFO.o.bz hB11);clear o10 hg10 hB10 HW HO9 ky9 HO2 kx k1 HF HR HFO qk1 rk1 lk1 qkx rkx lkx z0 z1 z2;(replace qk110:=k110.cell;replace rk110:=k110.frozen;replace lk110:=k110.lt;replace qkx10:=kx10.z);refine tk2 11 rfl aH (h:=?_);(try simp only[zz]);refine rdc 12 rfl fun K hK=>?_;go_simp;refine hK.out _ _ (⟨kx10.cell,hcc⟩) (fun aH=>?_);clear hK K;refine wpAnyH_done (by kernel_rfl) ?_ _;unfold lastQ;go_simp;refine NoPanic.normal ?_;have hne:X≠w.heap.size+1:=by omega
       have kx11:=kx10.set_ 1 (.slice A10 (tl.length+1) c10);have k111:=k110.far (p:=⟨X,1,none⟩) (by simp only;omega) (.slice A10 (tl.length+1) c10);have HO11:=ax (HO10.o.setT kx10 (by decide) 1 (.slice A10 (tl.length+1) c10));have HFO11:=ax (HFO10.o.setT kx10 (by decide) 1 (.slice A10 (tl.length+1) c10));have HR11:=ax (HR10.o.set_ (q:=⟨X,1,none⟩) (by simp only;omega) (.slice A10 (tl.length+1) c10));have HF11:=ax (HF10.o.set_ (p:=⟨X,1,none⟩) (Or.inr (by simp only;omega)) (.slice A10 (tl.length+1) c10));clear hcc aH;(go_wp2_with fail)
       first
       | (refine bodyPost_ret (v:=.agg #[.slice (some ⟨gf,3,none⟩) ft0.length (e1 - 1),.slice A10 (tl.length+1) c10]) (by simp[results,Tryz.results101,go_sem,qk110]) rfl ⟨_,rfl,⟨ft0,tl++[x0]⟩,⟨(some ⟨gf,3,none⟩),(e1 - 1),A10,c10,by simp,?_,?_⟩,hflN,by simp;omega,q,?_,by omega,?_⟩)
       | (refine bodyPost_ret (v:=.agg #[.slice (some ⟨gf,3,none⟩) ft0.length (e1 - 1),.slice A10 (tl.length+1) c10]) (by simp[results,Tryz.results101,go_sem,qk110]) rfl ⟨_,⟨ft0,tl++[x0]⟩,q,rfl,⟨(some ⟨gf,3,none⟩),(e1 - 1),A10,c10,by simp,?_,?_⟩,hflN,by simp;omega,?_,by omega,?_⟩)
       ·exact HREL.o.rj ((HFO11.o.setT k111 (by decide) 0 _).setT (k111.set_ 0 _) (by decide) 1 _)
       ·exact (((((HO11.o.bq (base':=w.heap.size) (by omega)).setT k111 (by decide) 0 _).setT (k111.set_ 0 _) (by decide) 1 _)).reads2)
       ·exact (HR11.o.set_ (q:=⟨w.heap.size+1,0,none⟩) (by simp only;omega) _).set_ (q:=⟨w.heap.size+1,1,none⟩) (by simp only;omega) _
       ·exact (HF11.o.set_ (p:=⟨w.heap.size+1,0,none⟩) (Or.inr (by simp only;omega)) _).set_ (p:=⟨w.heap.size+1,1,none⟩) (Or.inr (by simp only;omega)) _
     have hm8b:((m8:Int) == 0)=false:=by simpa using hm80
     clear hm80 hm8;have hne:X≠w.heap.size+1:=by omega
     go_wp2_with fail
     first
     | (refine bodyPost_ret (v:=.agg #[.slice (some ⟨gf,3,none⟩) ft0.length (e1 - 1),.slice (some ⟨ga,0,none⟩) ys.length d1]) (by simp[results,Tryz.results101,go_sem,qk1]) rfl ⟨_,rfl,⟨ft0,ys⟩,⟨(some ⟨gf,3,none⟩),(e1 - 1),(some ⟨ga,0,none⟩),d1,rfl,?_,?_⟩,hflN,hxl,q,?_,by omega,?_⟩)
     | (refine bodyPost_ret (v:=.agg #[.slice (some ⟨gf,3,none⟩) ft0.length (e1 - 1),.slice (some ⟨ga,0,none⟩) ys.length d1]) (by simp[results,Tryz.results101,go_sem,qk1]) rfl ⟨_,⟨ft0,ys⟩,q,rfl,⟨(some ⟨gf,3,none⟩),(e1 - 1),(some ⟨ga,0,none⟩),d1,rfl,?_,?_⟩,hflN,hxl,?_,by omega,?_⟩)
     ·exact HREL.o.rj ((HFO.o.setT k1 (by decide) 0 _).setT (k1.set_ 0 _) (by decide) 1 _)
     ·exact ((((HO2.o.setT k1 (by decide) 0 _).setT (k1.set_ 0 _) (by decide) 1 _)).readsI).2
     ·exact (HR.o.set_ (q:=⟨w.heap.size+1,0,none⟩) (by simp only;omega) _).set_ (q:=⟨w.heap.size+1,1,none⟩) (by simp only;omega) _
     ·exact (HF.o.set_ (p:=⟨w.heap.size+1,0,none⟩) (Or.inr (by simp only;omega)) _).set_ (p:=⟨w.heap.size+1,1,none⟩) (Or.inr (by simp only;omega)) _
    have hm6b:((m6:Int) == 0)=false:=by simpa using hm60
    clear hm60 hm6;by_cases hx1:xs.length≤1
    ·have hx1i:¬(1:Int)<(xs.length:Int):=by omega
     have hne:X≠w.heap.size+1:=by omega
     go_wp2_with fail
     first
     | (refine bodyPost_ret (v:=.agg #[.slice (some ⟨gf,3,none⟩) ft0.length (e1 - 1),.slice G xs.length d1]) (by simp[results,Tryz.results101,go_sem,qk1]) rfl ⟨_,rfl,⟨ft0,xs⟩,⟨(some ⟨gf,3,none⟩),(e1 - 1),G,d1,rfl,?_,?_⟩,hflN,hxl,q,?_,by omega,?_⟩)
     | (refine bodyPost_ret (v:=.agg #[.slice (some ⟨gf,3,none⟩) ft0.length (e1 - 1),.slice G xs.length d1]) (by simp[results,Tryz.results101,go_sem,qk1]) rfl ⟨_,⟨ft0,xs⟩,q,rfl,⟨(some ⟨gf,3,none⟩),(e1 - 1),G,d1,rfl,?_,?_⟩,hflN,hxl,?_,by omega,?_⟩)
     ·exact HREL.o.rj ((HFO.o.setT k1 (by decide) 0 _).setT (k1.set_ 0 _) (by decide) 1 _)
     ·exact ((((HO2.o.setT k1 (by decide) 0 _).setT (k1.set_ 0 _) (by decide) 1 _)).readsI).2
     ·exact (HR.o.set_ (q:=⟨w.heap.size+1,0,none⟩) (by simp only;omega) _).set_ (q:=⟨w.heap.size+1,1,none⟩) (by simp only;omega) _
     ·exact (HF.o.set_ (p:=⟨w.heap.size+1,0,none⟩) (Or.inr (by simp only;omega)) _).set_ (p:=⟨w.heap.size+1,1,none⟩) (Or.inr (by simp only;omega)) _
    have hx1i:(1:Int)<(xs.length:Int):=by omega
    (go_wp2_with fail);refine (c_pick g q 3 _ HR.o (by omega)).mono ?_;rintro e w8 ⟨m8,rfl,hm8,hR,hF⟩;replace k1:=k1.fr hF (by omega);replace kx:=kx.fr hF (by omega);replace HF:=ax (HF.o.trans hF);replace HFO:=ax (HFO.o.fr hF hlt);replace HO2:=ax (HO2.o.fr hF hlt);replace HR:=ax hR;replace hq:q+1≤p+4:=by omega
    generalize q+1=q at HR hq;clear hR hF;(replace qk1:=k1.cell;replace rk1:=k1.frozen;replace lk1:=k1.lt;replace qkx:=kx.cell;replace rkx:=kx.frozen;replace lkx:=kx.lt);by_cases hm80:(m8:Int)=0
    ·have hm8b:((m8:Int) == 0)=true:=by simpa using hm80
     clear hm80 hm8
     obtain ⟨x0,tl,rfl⟩:∃ x0 tl,xs=x0 :: tl:=by
      cases xs with
      | nil=>simp at hx1i
      | cons x0 tl=>exact ⟨x0,tl,rfl⟩
     obtain ⟨ga,cur,-,rfl,hga,kg,-⟩:=HO2.o.open_ (k:=0) (by simp);have hcap:(x0 :: tl).length≤d1:=AtomsO.capL HO2.o;have hd1:1<d1:=by simp at hcap hx1i;omega
     have hd2:¬d1 - 1=0:=by omega
     have hd3:d1≠1:=by omega
     have hti:(0:Int)<(tl.length:Int)+1:=by omega
     have hti1:(1:Int)≤(tl.length:Int)+1:=by omega
     have htl:tl.length≤19:=by simp at hxl;omega
     have HXV:=ax (HO2.o.readsI).2;have hc3:=HXV.o.cl (k:=0) (by simp);obtain ⟨z0,z1,z2⟩:=hc3;simp only[Nat.zero_mul,Nat.add_zero,Nat.zero_add,List.getElem_cons_zero] at z0 z1 z2;clear kg hga hcap;(go_wp2_with fail);refine wp_region_noPanic ?_;refine wp_region_last' (S:=(fun w'=>(∀ i,w'.cell? ⟨X,i,none⟩=#[.slice (some ⟨gf,3,none⟩) ft0.length (e1 - 1),.slice (some ⟨ga,0,none⟩) (x0 :: tl).length d1][i]?)∧w'.cell? ⟨ga,0,none⟩=some (.int .i64 x0.kind)∧w'.cell? ⟨ga,1,none⟩=some (.int .i64 x0.a)∧w'.cell? ⟨ga,2,none⟩=some (.int .i64 x0.b))) (by simp) (by kernel_rfl) (by kernel_rfl) (⟨Blk.cell blks,z0,z1,z2⟩) (fun aH=>?_);simp only[List.dropLast,List.getLast,nopOf,List.cons_append,List.nil_append,List.length_cons,List.length_nil,Nat.zero_add,Nat.reduceAdd];refine tk2 1 rfl aH (h:=tk2 2 rfl aH (h:=tk2 3 rfl aH (h:=?_)));(try simp only[zz]);refine tk2 5 rfl aH (h:=tk2 6 rfl aH (h:=tk2 7 rfl aH (h:=?_)));(try simp only[zz]);refine tk2 8 rfl aH (h:=?_);(try simp only[zz])
     refine wpAnyH_par [0,4,9] #[true,true,true,true,true,true,true,true,true,true,false,false,false] 3 (by kernel_rfl) aH
      (fun a0 D a1 w'=>aJ (Below w8.heap.size w8 w')∧aJ (dn D 4=true→dn D 0=true)∧
       ∃ v66 v70 v75,a1=((a0.put (some 66) v66).put (some 70) v70).put (some 75) v75∧
        aJ (dn D 0=true→dn D 4=false→(∃ y,v66=.slice (some ⟨y,0,none⟩) 0 0)∧AtomsO w' w8.heap.size v66 [])∧
        aJ (dn D 4=true→(∃ A c,v70=.slice A tl.length c)∧AtomsO w' w8.heap.size v70 tl)∧
        aJ (dn D 9=true→∃ y,v75=.slice (some ⟨y,0,none⟩) 1 1∧Blk w' y tA #[.int .i64 x0.kind,.int .i64 x0.a,.int .i64 x0.b]∧(dn D 0=true→dn D 4=false→v66.ownBlock≠some y))) ?start ?steps ?fin
     case start=>exact ⟨(Below.refl _ w8).drew,fun h=>absurd h (by decide),undef,undef,undef,rfl,fun h=>absurd h (by decide),fun h=>absurd h (by decide),fun h=>absurd h (by decide)⟩
     case steps=>
      refine ParSteps.cons rfl (fun D a1 w' hu hd hI hS K' hK G' hG=>?_) (ParSteps.cons rfl (fun D a1 w' hu hd hI hS K' hK G' hG=>?_) (ParSteps.cons rfl (fun D a1 w' hu hd hI hS K' hK G' hG=>?_) ParSteps.nil))
      ·obtain ⟨HW,HC,v66,v70,v75,ha,h0,h4,h9⟩:=hI;rw[ha] at hG;clear ha a1;have u0:=dn_un hu;have u4:dn D 4=false:=by cases e:dn D 4;rfl;have:=HC.o e;rw[u0] at this;cases this
       have HU:=ax u4;clear u0 u4;refine hG ?_;clear hG hd;(try simp only[zz]);go_simp;have hB2:Below w8.heap.size w8 (w'.alloc (.cells #[] tA)):=HW.o.alloc HW.o.size _;have hBw:Below w'.heap.size w' (w'.alloc (.cells #[] tA)):=bbox (Below.refl _ _) _;have hcc:=(HXV.o.bz hB2).cl (k:=0) (by simp);simp only[Nat.zero_mul,Nat.add_zero,Nat.zero_add,List.getElem_cons_zero] at hcc;refine hK.out _ _ ⟨(kx.nz hB2).cell,hcc⟩ ⟨hB2,fun _=>dn_self hu,.slice (some ⟨w'.heap.size,0,none⟩) 0 0,v70,v75,rfl,fun _ _=>⟨⟨_,rfl⟩,(AtomsO.empty w').bq HW.o.size⟩,fun h=>?_,fun h=>?_⟩
       ·rw[dn_ne (by decide)] at h;rw[HU.o] at h;cases h
       ·rw[dn_ne (by decide)] at h;obtain ⟨y,e,hk,-⟩:=h9.o h;exact ⟨y,e,hk.alloc _,fun _ _ e2=>by have:=hk.lt;simp[Value.ownBlock] at e2;omega⟩
      ·obtain ⟨HW,HC,v66,v70,v75,ha,h0,h4,h9⟩:=hI;rw[ha] at hG;clear ha a1;have u4:=dn_un hu;have t0:dn D 0=true:=hd ⟨0,.data⟩ (by simp) (by decide);obtain ⟨⟨y,rfl⟩,o⟩:=h0.o t0 u4;have HO:=ax o;have HU:=ax (And.intro u4 t0);clear u4 t0 o h0 hd;refine hG ?_;clear hG;(try simp only[zz]);rw[if_pos (by simp[Region.wanted])];refine wp_appAL (base:=w8.heap.size) (xs:=[]) (ys:=tl) _ _ rfl rfl HO.o rfl (Rd.tailA (HXV.o.bz HW.o)) (by simp;omega) HW.o.size ?_;intro A' c' w2 o2 hg2 hB2;simp only[List.nil_append] at o2 ⊢;have hB3:Below w8.heap.size w8 w2:=HW.o.trans hB2;have hcc:=(HXV.o.bz hB3).cl (k:=0) (by simp);simp only[Nat.zero_mul,Nat.add_zero,Nat.zero_add,List.getElem_cons_zero] at hcc;refine hK.out _ _ ⟨(kx.nz hB3).cell,hcc⟩ ⟨hB3,fun _=>?_,.slice (some ⟨y,0,none⟩) 0 0,.slice A' tl.length c',v75,rfl,fun _ h=>?_,fun _=>⟨⟨A',c',rfl⟩,o2⟩,fun h=>?_⟩
       ·rw[dn_ne (by decide)];exact HU.o.2
       ·rw[dn_self hu] at h;cases h
       ·rw[dn_ne (by decide)] at h;obtain ⟨z,e,hk,hne⟩:=h9.o h;exact ⟨z,e,hk.grown hg2 (fun e2=>hne HU.o.2 HU.o.1 e2.symm),fun _ h2=>by rw[dn_self hu] at h2;cases h2⟩
      ·obtain ⟨HW,HC,v66,v70,v75,ha,h0,h4,h9⟩:=hI;rw[ha] at hG;clear ha a1;refine hG ?_;clear hG hd;(try simp only[zz]);go_simp;have hB2:Below w8.heap.size w8 (w'.alloc (.cells #[.int .i64 x0.kind,.int .i64 x0.a,.int .i64 x0.b] tA)):=HW.o.alloc HW.o.size _;have hBw:Below w'.heap.size w' (w'.alloc (.cells #[.int .i64 x0.kind,.int .i64 x0.a,.int .i64 x0.b] tA)):=bbox (Below.refl _ _) _;have hcc:=(HXV.o.bz hB2).cl (k:=0) (by simp);simp only[Nat.zero_mul,Nat.add_zero,Nat.zero_add,List.getElem_cons_zero] at hcc;refine hK.out _ _ ⟨(kx.nz hB2).cell,hcc⟩ ⟨hB2,fun h=>?_,v66,v70,.slice (some ⟨w'.heap.size,0,none⟩) 1 1,rfl,fun h h'=>?_,fun h=>?_,fun _=>⟨_,rfl,Blk.new _ _ _,fun h h' e=>?_⟩⟩
       ·rw[dn_ne (by decide)] at h ⊢;exact HC.o h
       ·rw[dn_ne (by decide)] at h h';exact ⟨(h0.o h h').1,(h0.o h h').2.bz hBw⟩
       ·rw[dn_ne (by decide)] at h;exact ⟨(h4.o h).1,(h4.o h).2.bz hBw⟩
       ·rw[dn_ne (by decide)] at h h';have:=((h0.o h h').2.1.lt _ e).2;omega
     case fin=>
      rintro a1 w9 aH ⟨HW,-,v66,v70,v75,rfl,-,h4,h9⟩;obtain ⟨⟨A9,c9,rfl⟩,o9⟩:=h4.o (by decide);obtain ⟨y9,rfl,ky9,-⟩:=h9.o (by decide);have HO9:=ax o9;clear o9 h4 h9;(try simp only[zz]);refine rdc 10 rfl fun K hK=>?_;skip;(refine stepAL (base:=w8.heap.size) (xs:=tl) (ys:=[x0]) rfl _ _ rfl rfl HO9.o rfl (AtomsV.one (f:=x0) ky9) (by simp;omega) HW.o.size ?_;intro A10 c10 w10 o10 hg10 hB10;have hB11:Below w8.heap.size w8 w10:=HW.o.trans hB10;have hcc:=(HXV.o.bz hB11).cl (k:=0) (by simp);simp only[Nat.zero_mul,Nat.add_zero,Nat.zero_add,List.getElem_cons_zero] at hcc);refine hK.out _ _ (⟨(kx.nz hB11).cell,hcc⟩) ?_;clear aH hK K;intro aH;(try simp only[zz]);rw[List.length_append,List.length_singleton] at o10;have HO10:=ax o10;have hsz8:=HF.o.size;have kx10:=kx.nz hB11;have k110:=k1.nz hB11;have HF10:=ax (HF.o.go hB11);have HR10:=ax (HR.o.bz hB11);have HFO10:=ax (HFO.o.bz hB11);clear o10 hg10 hB10 HW HO9 ky9 HO2 kx k1 HF HR HFO qk1 rk1 lk1 qkx rkx lkx z0 z1 z2;(replace qk110:=k110.cell;replace rk110:=k110.frozen;replace lk110:=k110.lt;replace qkx10:=kx10.z);refine tk2 11 rfl aH (h:=?_);(try simp only[zz]);refine rdc 12 rfl fun K hK=>?_;go_simp;refine hK.out _ _ (⟨kx10.cell,hcc⟩) (fun aH=>?_);clear hK K;refine wpAnyH_done (by kernel_rfl) ?_ _;unfold lastQ;go_simp;refine NoPanic.normal ?_;have hne:X≠w.heap.size+1:=by omega
      have kx11:=kx10.set_ 1 (.slice A10 (tl.length+1) c10);have k111:=k110.far (p:=⟨X,1,none⟩) (by simp only;omega) (.slice A10 (tl.length+1) c10);have HO11:=ax (HO10.o.setT kx10 (by decide) 1 (.slice A10 (tl.length+1) c10));have HFO11:=ax (HFO10.o.setT kx10 (by decide) 1 (.slice A10 (tl.length+1) c10));have HR11:=ax (HR10.o.set_ (q:=⟨X,1,none⟩) (by simp only;omega) (.slice A10 (tl.length+1) c10));have HF11:=ax (HF10.o.set_ (p:=⟨X,1,none⟩) (Or.inr (by simp only;omega)) (.slice A10 (tl.length+1) c10));clear hcc aH;(go_wp2_with fail)
      first
      | (refine bodyPost_ret (v:=.agg #[.slice (some ⟨gf,3,none⟩) ft0.length (e1 - 1),.slice A10 (tl.length+1) c10]) (by simp[results,Tryz.results101,go_sem,qk110]) rfl ⟨_,rfl,⟨ft0,tl++[x0]⟩,⟨(some ⟨gf,3,none⟩),(e1 - 1),A10,c10,by simp,?_,?_⟩,hflN,by simp;omega,q,?_,by omega,?_⟩)
      | (refine bodyPost_ret (v:=.agg #[.slice (some ⟨gf,3,none⟩) ft0.length (e1 - 1),.slice A10 (tl.length+1) c10]) (by simp[results,Tryz.results101,go_sem,qk110]) rfl ⟨_,⟨ft0,tl++[x0]⟩,q,rfl,⟨(some ⟨gf,3,none⟩),(e1 - 1),A10,c10,by simp,?_,?_⟩,hflN,by simp;omega,?_,by omega,?_⟩)
      ·exact HREL.o.rj ((HFO11.o.setT k111 (by decide) 0 _).setT (k111.set_ 0 _) (by decide) 1 _)
      ·exact (((((HO11.o.bq (base':=w.heap.size) (by omega)).setT k111 (by decide) 0 _).setT (k111.set_ 0 _) (by decide) 1 _)).reads2)
      ·exact (HR11.o.set_ (q:=⟨w.heap.size+1,0,none⟩) (by simp only;omega) _).set_ (q:=⟨w.heap.size+1,1,none⟩) (by simp only;omega) _
      ·exact (HF11.o.set_ (p:=⟨w.heap.size+1,0,none⟩) (Or.inr (by simp only;omega)) _).set_ (p:=⟨w.heap.size+1,1,none⟩) (Or.inr (by simp only;omega)) _
    have hm8b:((m8:Int) == 0)=false:=by simpa using hm80
    clear hm80 hm8;have hne:X≠w.heap.size+1:=by omega
    go_wp2_with fail
    first
    | (refine bodyPost_ret (v:=.agg #[.slice (some ⟨gf,3,none⟩) ft0.length (e1 - 1),.slice G xs.length d1]) (by simp[results,Tryz.results101,go_sem,qk1]) rfl ⟨_,rfl,⟨ft0,xs⟩,⟨(some ⟨gf,3,none⟩),(e1 - 1),G,d1,rfl,?_,?_⟩,hflN,hxl,q,?_,by omega,?_⟩)
    | (refine bodyPost_ret (v:=.agg #[.slice (some ⟨gf,3,none⟩) ft0.length (e1 - 1),.slice G xs.length d1]) (by simp[results,Tryz.results101,go_sem,qk1]) rfl ⟨_,⟨ft0,xs⟩,q,rfl,⟨(some ⟨gf,3,none⟩),(e1 - 1),G,d1,rfl,?_,?_⟩,hflN,hxl,?_,by omega,?_⟩)
    ·exact HREL.o.rj ((HFO.o.setT k1 (by decide) 0 _).setT (k1.set_ 0 _) (by decide) 1 _)
    ·exact ((((HO2.o.setT k1 (by decide) 0 _).setT (k1.set_ 0 _) (by decide) 1 _)).readsI).2
    ·exact (HR.o.set_ (q:=⟨w.heap.size+1,0,none⟩) (by simp only;omega) _).set_ (q:=⟨w.heap.size+1,1,none⟩) (by simp only;omega) _
    ·exact (HF.o.set_ (p:=⟨w.heap.size+1,0,none⟩) (Or.inr (by simp only;omega)) _).set_ (p:=⟨w.heap.size+1,1,none⟩) (Or.inr (by simp only;omega)) _
   have hm5b:((m5:Int) == 0)=false:=by simpa using hm50
   clear hm50 hm5;have HREL:aJ (FRel F fs F fs):=Or.inl ⟨rfl,rfl⟩;by_cases hx0:xs.length=0
   ·have hx0i:¬(0:Int)<(xs.length:Int):=by omega
    have hx1i:¬(1:Int)<(xs.length:Int):=by omega
    clear hx0;have hne:X≠w.heap.size+1:=by omega
    go_wp2_with fail
    first
    | (refine bodyPost_ret (v:=.agg #[.slice F fs.length e1,.slice G xs.length d1]) (by simp[results,Tryz.results101,go_sem,qk1]) rfl ⟨_,rfl,⟨fs,xs⟩,⟨F,e1,G,d1,rfl,?_,?_⟩,hfl,hxl,q,?_,by omega,?_⟩)
    | (refine bodyPost_ret (v:=.agg #[.slice F fs.length e1,.slice G xs.length d1]) (by simp[results,Tryz.results101,go_sem,qk1]) rfl ⟨_,⟨fs,xs⟩,q,rfl,⟨F,e1,G,d1,rfl,?_,?_⟩,hfl,hxl,?_,by omega,?_⟩)
    ·exact HREL.o.rj ((HFO.o.setT k1 (by decide) 0 _).setT (k1.set_ 0 _) (by decide) 1 _)
    ·exact ((((HO2.o.setT k1 (by decide) 0 _).setT (k1.set_ 0 _) (by decide) 1 _)).readsI).2
    ·exact (HR.o.set_ (q:=⟨w.heap.size+1,0,none⟩) (by simp only;omega) _).set_ (q:=⟨w.heap.size+1,1,none⟩) (by simp only;omega) _
    ·exact (HF.o.set_ (p:=⟨w.heap.size+1,0,none⟩) (Or.inr (by simp only;omega)) _).set_ (p:=⟨w.heap.size+1,1,none⟩) (Or.inr (by simp only;omega)) _
   have hx0i:(0:Int)<(xs.length:Int):=by omega
   (go_wp2_with fail);refine (c_pick g q 3 _ HR.o (by omega)).mono ?_;rintro e w6 ⟨m6,rfl,hm6,hR,hF⟩;replace k1:=k1.fr hF (by omega);replace kx:=kx.fr hF (by omega);replace HF:=ax (HF.o.trans hF);replace HFO:=ax (HFO.o.fr hF hlt);replace HO2:=ax (HO2.o.fr hF hlt);replace HR:=ax hR;replace hq:q+1≤p+3:=by omega
   generalize q+1=q at HR hq;clear hR hF;(replace qk1:=k1.cell;replace rk1:=k1.frozen;replace lk1:=k1.lt;replace qkx:=kx.cell;replace rkx:=kx.frozen;replace lkx:=kx.lt);by_cases hm60:(m6:Int)=0
   ·have hm6b:((m6:Int) == 0)=true:=by simpa using hm60
    clear hm60 hm6;(go_wp2_with fail);refine (c_pick g q (xs.length:Int) _ HR.o (by omega)).mono ?_;rintro e w7 ⟨m7,rfl,hm7,hR,hF⟩;replace k1:=k1.fr hF (by omega);replace kx:=kx.fr hF (by omega);replace HF:=ax (HF.o.trans hF);replace HFO:=ax (HFO.o.fr hF hlt);replace HO2:=ax (HO2.o.fr hF hlt);replace HR:=ax hR;replace hq:q+1≤p+4:=by omega
    generalize q+1=q at HR hq;clear hR hF;(replace qk1:=k1.cell;replace rk1:=k1.frozen;replace lk1:=k1.lt;replace qkx:=kx.cell;replace rkx:=kx.frozen;replace lkx:=kx.lt);have hm7l:m7<xs.length:=by omega
    obtain ⟨ga,cur,-,rfl,hga,kg,hsz3,hc0,hc1,hc2,hset⟩:=HO2.o.open_ (k:=m7) hm7l;have qg:=(kg.cell (m7 * 3)).trans hc0;have rg:=kg.frozen;have lg:=kg.lt;obtain ⟨ok,hok⟩:∃ ok,ok=(xs[m7]'hm7l).kind:=⟨_,rfl⟩;rw[←hok] at qg;have hm7i:(m7:Int)<(xs.length:Int):=by omega
    have hxg:X≠ga:=kx.ne_ kg (by decide);have h1g:w.heap.size+1≠ga:=k1.ne_ kg (by decide);clear hc0 hc1 hc2 hok hsz3 hm7;obtain ⟨ys,hys⟩:∃ ys,ys=xs.set m7 ⟨2,(xs[m7]'hm7l).a,(xs[m7]'hm7l).b⟩:=⟨_,rfl⟩;have hyl:ys.length=xs.length:=by rw[hys];simp
    have E0:=hset (m7 * 3) (.int .i64 2) ys (by rw[hys];exact encA_setK hm7l 2) hyl;rw[←hyl] at E0 kx hm7i hxl hx0i;have hga0:=kg;clear hset HO2 hys;have HO2:=ax E0;clear E0;replace HFO:=ax (HFO.o.setT kg (by decide) (m7 * 3) (.int .i64 2));replace HR:=ax (HR.o.set_ (q:=⟨ga,m7 * 3,none⟩) (by simp only;omega) (.int .i64 2));replace HF:=ax (HF.o.set_ (p:=⟨ga,m7 * 3,none⟩) (Or.inr hga) (.int .i64 2));(replace qk1:=k1.cell;replace rk1:=k1.frozen;replace lk1:=k1.lt;replace qkx:=kx.cell;replace rkx:=kx.frozen;replace lkx:=kx.lt);have qk17:=qk1;have qkx7:=qkx;have lk17:=lk1;have lkx7:=lkx;have rk17:=rk1;have rkx7:=rkx;replace k1:=k1.far (p:=⟨ga,m7 * 3,none⟩) h1g (.int .i64 2);replace kx:=kx.far (p:=⟨ga,m7 * 3,none⟩) hxg (.int .i64 2);have hgx:ga≠X:=fun e=>hxg e.symm;have hg1:ga≠w.heap.size+1:=fun e=>h1g e.symm;clear hyl hx0 hm7l;by_cases hx1:ys.length≤1
    ·have hx1i:¬(1:Int)<(ys.length:Int):=by omega
     have hne:X≠w.heap.size+1:=by omega
     go_wp2_with fail
     first
     | (refine bodyPost_ret (v:=.agg #[.slice F fs.length e1,.slice (some ⟨ga,0,none⟩) ys.length d1]) (by simp[results,Tryz.results101,go_sem,qk17,lk17,h1g,hg1]) rfl ⟨_,rfl,⟨fs,ys⟩,⟨F,e1,(some ⟨ga,0,none⟩),d1,rfl,?_,?_⟩,hfl,hxl,q,?_,by omega,?_⟩)
     | (refine bodyPost_ret (v:=.agg #[.slice F fs.length e1,.slice (some ⟨ga,0,none⟩) ys.length d1]) (by simp[results,Tryz.results101,go_sem,qk17,lk17,h1g,hg1]) rfl ⟨_,⟨fs,ys⟩,q,rfl,⟨F,e1,(some ⟨ga,0,none⟩),d1,rfl,?_,?_⟩,hfl,hxl,?_,by omega,?_⟩)
     ·exact HREL.o.rj ((HFO.o.setT k1 (by decide) 0 _).setT (k1.set_ 0 _) (by decide) 1 _)
     ·exact ((((HO2.o.setT k1 (by decide) 0 _).setT (k1.set_ 0 _) (by decide) 1 _)).readsI).2
     ·exact (HR.o.set_ (q:=⟨w.heap.size+1,0,none⟩) (by simp only;omega) _).set_ (q:=⟨w.heap.size+1,1,none⟩) (by simp only;omega) _
     ·exact (HF.o.set_ (p:=⟨w.heap.size+1,0,none⟩) (Or.inr (by simp only;omega)) _).set_ (p:=⟨w.heap.size+1,1,none⟩) (Or.inr (by simp only;omega)) _
    have hx1i:(1:Int)<(ys.length:Int):=by omega
    (go_wp2_with fail);refine (c_pick g q 3 _ HR.o (by omega)).mono ?_;rintro e w8 ⟨m8,rfl,hm8,hR,hF⟩;replace k1:=k1.fr hF (by omega);replace kx:=kx.fr hF (by omega);replace HF:=ax (HF.o.trans hF);replace HFO:=ax (HFO.o.fr hF hlt);replace HO2:=ax (HO2.o.fr hF hlt);replace HR:=ax hR;replace hq:q+1≤p+5:=by omega
    generalize q+1=q at HR hq;clear hR hF;(replace qk1:=k1.cell;replace rk1:=k1.frozen;replace lk1:=k1.lt;replace qkx:=kx.cell;replace rkx:=kx.frozen;replace lkx:=kx.lt);by_cases hm80:(m8:Int)=0
    ·have hm8b:((m8:Int) == 0)=true:=by simpa using hm80
     clear hm80 hm8
     obtain ⟨x0,tl,rfl⟩:∃ x0 tl,ys=x0 :: tl:=by
      cases ys with
      | nil=>simp at hx1i
      | cons x0 tl=>exact ⟨x0,tl,rfl⟩
     have hcap:(x0 :: tl).length≤d1:=AtomsO.capL HO2.o;have hd1:1<d1:=by simp at hcap hx1i;omega
     have hd2:¬d1 - 1=0:=by omega
     have hd3:d1≠1:=by omega
     have hti:(0:Int)<(tl.length:Int)+1:=by omega
     have hti1:(1:Int)≤(tl.length:Int)+1:=by omega
     have htl:tl.length≤19:=by simp at hxl;omega
     have HXV:=ax (HO2.o.readsI).2;have hc3:=HXV.o.cl (k:=0) (by simp);obtain ⟨z0,z1,z2⟩:=hc3;simp only[Nat.zero_mul,Nat.add_zero,Nat.zero_add,List.getElem_cons_zero] at z0 z1 z2;clear hcap;(go_wp2_with fail);refine wp_region_noPanic ?_;refine wp_region_last' (S:=(fun w'=>(∀ i,w'.cell? ⟨X,i,none⟩=#[.slice F fs.length e1,.slice (some ⟨ga,0,none⟩) (x0 :: tl).length d1][i]?)∧w'.cell? ⟨ga,0,none⟩=some (.int .i64 x0.kind)∧w'.cell? ⟨ga,1,none⟩=some (.int .i64 x0.a)∧w'.cell? ⟨ga,2,none⟩=some (.int .i64 x0.b))) (by simp) (by kernel_rfl) (by kernel_rfl) (⟨Blk.cell blks,z0,z1,z2⟩) (fun aH=>?_);simp only[List.dropLast,List.getLast,nopOf,List.cons_append,List.nil_append,List.length_cons,List.length_nil,Nat.zero_add,Nat.reduceAdd];refine tk2 1 rfl aH (h:=tk2 2 rfl aH (h:=tk2 3 rfl aH (h:=?_)));(try simp only[zz]);refine tk2 5 rfl aH (h:=tk2 6 rfl aH (h:=tk2 7 rfl aH (h:=?_)));(try simp only[zz]);refine tk2 8 rfl aH (h:=?_);(try simp only[zz])
     refine wpAnyH_par [0,4,9] #[true,true,true,true,true,true,true,true,true,true,false,false,false] 3 (by kernel_rfl) aH
      (fun a0 D a1 w'=>aJ (Below w8.heap.size w8 w')∧aJ (dn D 4=true→dn D 0=true)∧
       ∃ v66 v70 v75,a1=((a0.put (some 66) v66).put (some 70) v70).put (some 75) v75∧
        aJ (dn D 0=true→dn D 4=false→(∃ y,v66=.slice (some ⟨y,0,none⟩) 0 0)∧AtomsO w' w8.heap.size v66 [])∧
        aJ (dn D 4=true→(∃ A c,v70=.slice A tl.length c)∧AtomsO w' w8.heap.size v70 tl)∧
        aJ (dn D 9=true→∃ y,v75=.slice (some ⟨y,0,none⟩) 1 1∧Blk w' y tA #[.int .i64 x0.kind,.int .i64 x0.a,.int .i64 x0.b]∧(dn D 0=true→dn D 4=false→v66.ownBlock≠some y))) ?start ?steps ?fin
     case start=>exact ⟨(Below.refl _ w8).drew,fun h=>absurd h (by decide),undef,undef,undef,rfl,fun h=>absurd h (by decide),fun h=>absurd h (by decide),fun h=>absurd h (by decide)⟩
     case steps=>
      refine ParSteps.cons rfl (fun D a1 w' hu hd hI hS K' hK G' hG=>?_) (ParSteps.cons rfl (fun D a1 w' hu hd hI hS K' hK G' hG=>?_) (ParSteps.cons rfl (fun D a1 w' hu hd hI hS K' hK G' hG=>?_) ParSteps.nil))
      ·obtain ⟨HW,HC,v66,v70,v75,ha,h0,h4,h9⟩:=hI;rw[ha] at hG;clear ha a1;have u0:=dn_un hu;have u4:dn D 4=false:=by cases e:dn D 4;rfl;have:=HC.o e;rw[u0] at this;cases this
       have HU:=ax u4;clear u0 u4;refine hG ?_;clear hG hd;(try simp only[zz]);go_simp;have hB2:Below w8.heap.size w8 (w'.alloc (.cells #[] tA)):=HW.o.alloc HW.o.size _;have hBw:Below w'.heap.size w' (w'.alloc (.cells #[] tA)):=bbox (Below.refl _ _) _;have hcc:=(HXV.o.bz hB2).cl (k:=0) (by simp);simp only[Nat.zero_mul,Nat.add_zero,Nat.zero_add,List.getElem_cons_zero] at hcc;refine hK.out _ _ ⟨(kx.nz hB2).cell,hcc⟩ ⟨hB2,fun _=>dn_self hu,.slice (some ⟨w'.heap.size,0,none⟩) 0 0,v70,v75,rfl,fun _ _=>⟨⟨_,rfl⟩,(AtomsO.empty w').bq HW.o.size⟩,fun h=>?_,fun h=>?_⟩
       ·rw[dn_ne (by decide)] at h;rw[HU.o] at h;cases h
       ·rw[dn_ne (by decide)] at h;obtain ⟨y,e,hk,-⟩:=h9.o h;exact ⟨y,e,hk.alloc _,fun _ _ e2=>by have:=hk.lt;simp[Value.ownBlock] at e2;omega⟩
      ·obtain ⟨HW,HC,v66,v70,v75,ha,h0,h4,h9⟩:=hI;rw[ha] at hG;clear ha a1;have u4:=dn_un hu;have t0:dn D 0=true:=hd ⟨0,.data⟩ (by simp) (by decide);obtain ⟨⟨y,rfl⟩,o⟩:=h0.o t0 u4;have HO:=ax o;have HU:=ax (And.intro u4 t0);clear u4 t0 o h0 hd;refine hG ?_;clear hG;(try simp only[zz]);rw[if_pos (by simp[Region.wanted])];refine wp_appAL (base:=w8.heap.size) (xs:=[]) (ys:=tl) _ _ rfl rfl HO.o rfl (Rd.tailA (HXV.o.bz HW.o)) (by simp;omega) HW.o.size ?_;intro A' c' w2 o2 hg2 hB2;simp only[List.nil_append] at o2 ⊢;have hB3:Below w8.heap.size w8 w2:=HW.o.trans hB2;have hcc:=(HXV.o.bz hB3).cl (k:=0) (by simp);simp only[Nat.zero_mul,Nat.add_zero,Nat.zero_add,List.getElem_cons_zero] at hcc;refine hK.out _ _ ⟨(kx.nz hB3).cell,hcc⟩ ⟨hB3,fun _=>?_,.slice (some ⟨y,0,none⟩) 0 0,.slice A' tl.length c',v75,rfl,fun _ h=>?_,fun _=>⟨⟨A',c',rfl⟩,o2⟩,fun h=>?_⟩
       ·rw[dn_ne (by decide)];exact HU.o.2
       ·rw[dn_self hu] at h;cases h
       ·rw[dn_ne (by decide)] at h;obtain ⟨z,e,hk,hne⟩:=h9.o h;exact ⟨z,e,hk.grown hg2 (fun e2=>hne HU.o.2 HU.o.1 e2.symm),fun _ h2=>by rw[dn_self hu] at h2;cases h2⟩
      ·obtain ⟨HW,HC,v66,v70,v75,ha,h0,h4,h9⟩:=hI;rw[ha] at hG;clear ha a1;refine hG ?_;clear hG hd;(try simp only[zz]);go_simp;have hB2:Below w8.heap.size w8 (w'.alloc (.cells #[.int .i64 x0.kind,.int .i64 x0.a,.int .i64 x0.b] tA)):=HW.o.alloc HW.o.size _;have hBw:Below w'.heap.size w' (w'.alloc (.cells #[.int .i64 x0.kind,.int .i64 x0.a,.int .i64 x0.b] tA)):=bbox (Below.refl _ _) _;have hcc:=(HXV.o.bz hB2).cl (k:=0) (by simp);simp only[Nat.zero_mul,Nat.add_zero,Nat.zero_add,List.getElem_cons_zero] at hcc;refine hK.out _ _ ⟨(kx.nz hB2).cell,hcc⟩ ⟨hB2,fun h=>?_,v66,v70,.slice (some ⟨w'.heap.size,0,none⟩) 1 1,rfl,fun h h'=>?_,fun h=>?_,fun _=>⟨_,rfl,Blk.new _ _ _,fun h h' e=>?_⟩⟩
       ·rw[dn_ne (by decide)] at h ⊢;exact HC.o h
       ·rw[dn_ne (by decide)] at h h';exact ⟨(h0.o h h').1,(h0.o h h').2.bz hBw⟩
       ·rw[dn_ne (by decide)] at h;exact ⟨(h4.o h).1,(h4.o h).2.bz hBw⟩
       ·rw[dn_ne (by decide)] at h h';have:=((h0.o h h').2.1.lt _ e).2;omega
     case fin=>
      rintro a1 w9 aH ⟨HW,-,v66,v70,v75,rfl,-,h4,h9⟩;obtain ⟨⟨A9,c9,rfl⟩,o9⟩:=h4.o (by decide);obtain ⟨y9,rfl,ky9,-⟩:=h9.o (by decide);have HO9:=ax o9;clear o9 h4 h9;(try simp only[zz]);refine rdc 10 rfl fun K hK=>?_;skip;(refine stepAL (base:=w8.heap.size) (xs:=tl) (ys:=[x0]) rfl _ _ rfl rfl HO9.o rfl (AtomsV.one (f:=x0) ky9) (by simp;omega) HW.o.size ?_;intro A10 c10 w10 o10 hg10 hB10;have hB11:Below w8.heap.size w8 w10:=HW.o.trans hB10;have hcc:=(HXV.o.bz hB11).cl (k:=0) (by simp);simp only[Nat.zero_mul,Nat.add_zero,Nat.zero_add,List.getElem_cons_zero] at hcc);refine hK.out _ _ (⟨(kx.nz hB11).cell,hcc⟩) ?_;clear aH hK K;intro aH;(try simp only[zz]);rw[List.length_append,List.length_singleton] at o10;have HO10:=ax o10;have hsz8:=HF.o.size;have kx10:=kx.nz hB11;have k110:=k1.nz hB11;have HF10:=ax (HF.o.go hB11);have HR10:=ax (HR.o.bz hB11);have HFO10:=ax (HFO.o.bz hB11);clear o10 hg10 hB10 HW HO9 ky9 HO2 kx k1 HF HR HFO qk1 rk1 lk1 qkx rkx lkx z0 z1 z2;(replace qk110:=k110.cell;replace rk110:=k110.frozen;replace lk110:=k110.lt;replace qkx10:=kx10.z);refine tk2 11 rfl aH (h:=?_);(try simp only[zz]);refine rdc 12 rfl fun K hK=>?_;go_simp;refine hK.out _ _ (⟨kx10.cell,hcc⟩) (fun aH=>?_);clear hK K;refine wpAnyH_done (by kernel_rfl) ?_ _;unfold lastQ;go_simp;refine NoPanic.normal ?_;have hne:X≠w.heap.size+1:=by omega
      have kx11:=kx10.set_ 1 (.slice A10 (tl.length+1) c10);have k111:=k110.far (p:=⟨X,1,none⟩) (by simp only;omega) (.slice A10 (tl.length+1) c10);have HO11:=ax (HO10.o.setT kx10 (by decide) 1 (.slice A10 (tl.length+1) c10));have HFO11:=ax (HFO10.o.setT kx10 (by decide) 1 (.slice A10 (tl.length+1) c10));have HR11:=ax (HR10.o.set_ (q:=⟨X,1,none⟩) (by simp only;omega) (.slice A10 (tl.length+1) c10));have HF11:=ax (HF10.o.set_ (p:=⟨X,1,none⟩) (Or.inr (by simp only;omega)) (.slice A10 (tl.length+1) c10));clear hcc aH;(go_wp2_with fail)
      first
      | (refine bodyPost_ret (v:=.agg #[.slice F fs.length e1,.slice A10 (tl.length+1) c10]) (by simp[results,Tryz.results101,go_sem,qk110]) rfl ⟨_,rfl,⟨fs,tl++[x0]⟩,⟨F,e1,A10,c10,by simp,?_,?_⟩,hfl,by simp;omega,q,?_,by omega,?_⟩)
      | (refine bodyPost_ret (v:=.agg #[.slice F fs.length e1,.slice A10 (tl.length+1) c10]) (by simp[results,Tryz.results101,go_sem,qk110]) rfl ⟨_,⟨fs,tl++[x0]⟩,q,rfl,⟨F,e1,A10,c10,by simp,?_,?_⟩,hfl,by simp;omega,?_,by omega,?_⟩)
      ·exact HREL.o.rj ((HFO11.o.setT k111 (by decide) 0 _).setT (k111.set_ 0 _) (by decide) 1 _)
      ·exact (((((HO11.o.bq (base':=w.heap.size) (by omega)).setT k111 (by decide) 0 _).setT (k111.set_ 0 _) (by decide) 1 _)).reads2)
      ·exact (HR11.o.set_ (q:=⟨w.heap.size+1,0,none⟩) (by simp only;omega) _).set_ (q:=⟨w.heap.size+1,1,none⟩) (by simp only;omega) _
      ·exact (HF11.o.set_ (p:=⟨w.heap.size+1,0,none⟩) (Or.inr (by simp only;omega)) _).set_ (p:=⟨w.heap.size+1,1,none⟩) (Or.inr (by simp only;omega)) _
    have hm8b:((m8:Int) == 0)=false:=by simpa using hm80
    clear hm80 hm8;have hne:X≠w.heap.size+1:=by omega
    go_wp2_with fail
    first
    | (refine bodyPost_ret (v:=.agg #[.slice F fs.length e1,.slice (some ⟨ga,0,none⟩) ys.length d1]) (by simp[results,Tryz.results101,go_sem,qk1]) rfl ⟨_,rfl,⟨fs,ys⟩,⟨F,e1,(some ⟨ga,0,none⟩),d1,rfl,?_,?_⟩,hfl,hxl,q,?_,by omega,?_⟩)
    | (refine bodyPost_ret (v:=.agg #[.slice F fs.length e1,.slice (some ⟨ga,0,none⟩) ys.length d1]) (by simp[results,Tryz.results101,go_sem,qk1]) rfl ⟨_,⟨fs,ys⟩,q,rfl,⟨F,e1,(some ⟨ga,0,none⟩),d1,rfl,?_,?_⟩,hfl,hxl,?_,by omega,?_⟩)
    ·exact HREL.o.rj ((HFO.o.setT k1 (by decide) 0 _).setT (k1.set_ 0 _) (by decide) 1 _)
    ·exact ((((HO2.o.setT k1 (by decide) 0 _).setT (k1.set_ 0 _) (by decide) 1 _)).readsI).2
    ·exact (HR.o.set_ (q:=⟨w.heap.size+1,0,none⟩) (by simp only;omega) _).set_ (q:=⟨w.heap.size+1,1,none⟩) (by simp only;omega) _
    ·exact (HF.o.set_ (p:=⟨w.heap.size+1,0,none⟩) (Or.inr (by simp only;omega)) _).set_ (p:=⟨w.heap.size+1,1,none⟩) (Or.inr (by simp only;omega)) _
   have hm6b:((m6:Int) == 0)=false:=by simpa using hm60
   clear hm60 hm6;by_cases hx1:xs.length≤1
   ·have hx1i:¬(1:Int)<(xs.length:Int):=by omega
    have hne:X≠w.heap.size+1:=by omega
    go_wp2_with fail
    first
    | (refine bodyPost_ret (v:=.agg #[.slice F fs.length e1,.slice G xs.length d1]) (by simp[results,Tryz.results101,go_sem,qk1]) rfl ⟨_,rfl,⟨fs,xs⟩,⟨F,e1,G,d1,rfl,?_,?_⟩,hfl,hxl,q,?_,by omega,?_⟩)
    | (refine bodyPost_ret (v:=.agg #[.slice F fs.length e1,.slice G xs.length d1]) (by simp[results,Tryz.results101,go_sem,qk1]) rfl ⟨_,⟨fs,xs⟩,q,rfl,⟨F,e1,G,d1,rfl,?_,?_⟩,hfl,hxl,?_,by omega,?_⟩)
    ·exact HREL.o.rj ((HFO.o.setT k1 (by decide) 0 _).setT (k1.set_ 0 _) (by decide) 1 _)
    ·exact ((((HO2.o.setT k1 (by decide) 0 _).setT (k1.set_ 0 _) (by decide) 1 _)).readsI).2
    ·exact (HR.o.set_ (q:=⟨w.heap.size+1,0,none⟩) (by simp only;omega) _).set_ (q:=⟨w.heap.size+1,1,none⟩) (by simp only;omega) _
    ·exact (HF.o.set_ (p:=⟨w.heap.size+1,0,none⟩) (Or.inr (by simp only;omega)) _).set_ (p:=⟨w.heap.size+1,1,none⟩) (Or.inr (by simp only;omega)) _
   have hx1i:(1:Int)<(xs.length:Int):=by omega
   (go_wp2_with fail);refine (c_pick g q 3 _ HR.o (by omega)).mono ?_;rintro e w8 ⟨m8,rfl,hm8,hR,hF⟩;replace k1:=k1.fr hF (by omega);replace kx:=kx.fr hF (by omega);replace HF:=ax (HF.o.trans hF);replace HFO:=ax (HFO.o.fr hF hlt);replace HO2:=ax (HO2.o.fr hF hlt);replace HR:=ax hR;replace hq:q+1≤p+4:=by omega
   generalize q+1=q at HR hq;clear hR hF;(replace qk1:=k1.cell;replace rk1:=k1.frozen;replace lk1:=k1.lt;replace qkx:=kx.cell;replace rkx:=kx.frozen;replace lkx:=kx.lt);by_cases hm80:(m8:Int)=0
   ·have hm8b:((m8:Int) == 0)=true:=by simpa using hm80
    clear hm80 hm8
    obtain ⟨x0,tl,rfl⟩:∃ x0 tl,xs=x0 :: tl:=by
     cases xs with
     | nil=>simp at hx1i
     | cons x0 tl=>exact ⟨x0,tl,rfl⟩
    obtain ⟨ga,cur,-,rfl,hga,kg,-⟩:=HO2.o.open_ (k:=0) (by simp);have hcap:(x0 :: tl).length≤d1:=AtomsO.capL HO2.o;have hd1:1<d1:=by simp at hcap hx1i;omega
    have hd2:¬d1 - 1=0:=by omega
    have hd3:d1≠1:=by omega
    have hti:(0:Int)<(tl.length:Int)+1:=by omega
    have hti1:(1:Int)≤(tl.length:Int)+1:=by omega
    have htl:tl.length≤19:=by simp at hxl;omega
    have HXV:=ax (HO2.o.readsI).2;have hc3:=HXV.o.cl (k:=0) (by simp);obtain ⟨z0,z1,z2⟩:=hc3;simp only[Nat.zero_mul,Nat.add_zero,Nat.zero_add,List.getElem_cons_zero] at z0 z1 z2;clear kg hga hcap;(go_wp2_with fail);refine wp_region_noPanic ?_;refine wp_region_last' (S:=(fun w'=>(∀ i,w'.cell? ⟨X,i,none⟩=#[.slice F fs.length e1,.slice (some ⟨ga,0,none⟩) (x0 :: tl).length d1][i]?)∧w'.cell? ⟨ga,0,none⟩=some (.int .i64 x0.kind)∧w'.cell? ⟨ga,1,none⟩=some (.int .i64 x0.a)∧w'.cell? ⟨ga,2,none⟩=some (.int .i64 x0.b))) (by simp) (by kernel_rfl) (by kernel_rfl) (⟨Blk.cell blks,z0,z1,z2⟩) (fun aH=>?_);simp only[List.dropLast,List.getLast,nopOf,List.cons_append,List.nil_append,List.length_cons,List.length_nil,Nat.zero_add,Nat.reduceAdd];refine tk2 1 rfl aH (h:=tk2 2 rfl aH (h:=tk2 3 rfl aH (h:=?_)));(try simp only[zz]);refine tk2 5 rfl aH (h:=tk2 6 rfl aH (h:=tk2 7 rfl aH (h:=?_)));(try simp only[zz]);refine tk2 8 rfl aH (h:=?_);(try simp only[zz])
    refine wpAnyH_par [0,4,9] #[true,true,true,true,true,true,true,true,true,true,false,false,false] 3 (by kernel_rfl) aH
     (fun a0 D a1 w'=>aJ (Below w8.heap.size w8 w')∧aJ (dn D 4=true→dn D 0=true)∧
      ∃ v66 v70 v75,a1=((a0.put (some 66) v66).put (some 70) v70).put (some 75) v75∧
       aJ (dn D 0=true→dn D 4=false→(∃ y,v66=.slice (some ⟨y,0,none⟩) 0 0)∧AtomsO w' w8.heap.size v66 [])∧
       aJ (dn D 4=true→(∃ A c,v70=.slice A tl.length c)∧AtomsO w' w8.heap.size v70 tl)∧
       aJ (dn D 9=true→∃ y,v75=.slice (some ⟨y,0,none⟩) 1 1∧Blk w' y tA #[.int .i64 x0.kind,.int .i64 x0.a,.int .i64 x0.b]∧(dn D 0=true→dn D 4=false→v66.ownBlock≠some y))) ?start ?steps ?fin
    case start=>exact ⟨(Below.refl _ w8).drew,fun h=>absurd h (by decide),undef,undef,undef,rfl,fun h=>absurd h (by decide),fun h=>absurd h (by decide),fun h=>absurd h (by decide)⟩
    case steps=>
     refine ParSteps.cons rfl (fun D a1 w' hu hd hI hS K' hK G' hG=>?_) (ParSteps.cons rfl (fun D a1 w' hu hd hI hS K' hK G' hG=>?_) (ParSteps.cons rfl (fun D a1 w' hu hd hI hS K' hK G' hG=>?_) ParSteps.nil))
     ·obtain ⟨HW,HC,v66,v70,v75,ha,h0,h4,h9⟩:=hI;rw[ha] at hG;clear ha a1;have u0:=dn_un hu;have u4:dn D 4=false:=by cases e:dn D 4;rfl;have:=HC.o e;rw[u0] at this;cases this
      have HU:=ax u4;clear u0 u4;refine hG ?_;clear hG hd;(try simp only[zz]);go_simp;have hB2:Below w8.heap.size w8 (w'.alloc (.cells #[] tA)):=HW.o.alloc HW.o.size _;have hBw:Below w'.heap.size w' (w'.alloc (.cells #[] tA)):=bbox (Below.refl _ _) _;have hcc:=(HXV.o.bz hB2).cl (k:=0) (by simp);simp only[Nat.zero_mul,Nat.add_zero,Nat.zero_add,List.getElem_cons_zero] at hcc;refine hK.out _ _ ⟨(kx.nz hB2).cell,hcc⟩ ⟨hB2,fun _=>dn_self hu,.slice (some ⟨w'.heap.size,0,none⟩) 0 0,v70,v75,rfl,fun _ _=>⟨⟨_,rfl⟩,(AtomsO.empty w').bq HW.o.size⟩,fun h=>?_,fun h=>?_⟩
      ·rw[dn_ne (by decide)] at h;rw[HU.o] at h;cases h
      ·rw[dn_ne (by decide)] at h;obtain ⟨y,e,hk,-⟩:=h9.o h;exact ⟨y,e,hk.alloc _,fun _ _ e2=>by have:=hk.lt;simp[Value.ownBlock] at e2;omega⟩
     ·obtain ⟨HW,HC,v66,v70,v75,ha,h0,h4,h9⟩:=hI;rw[ha] at hG;clear ha a1;have u4:=dn_un hu;have t0:dn D 0=true:=hd ⟨0,.data⟩ (by simp) (by decide);obtain ⟨⟨y,rfl⟩,o⟩:=h0.o t0 u4;have HO:=ax o;have HU:=ax (And.intro u4 t0);clear u4 t0 o h0 hd;refine hG ?_;clear hG;(try simp only[zz]);rw[if_pos (by simp[Region.wanted])];refine wp_appAL (base:=w8.heap.size) (xs:=[]) (ys:=tl) _ _ rfl rfl HO.o rfl (Rd.tailA (HXV.o.bz HW.o)) (by simp;omega) HW.o.size ?_;intro A' c' w2 o2 hg2 hB2;simp only[List.nil_append] at o2 ⊢;have hB3:Below w8.heap.size w8 w2:=HW.o.trans hB2;have hcc:=(HXV.o.bz hB3).cl (k:=0) (by simp);simp only[Nat.zero_mul,Nat.add_zero,Nat.zero_add,List.getElem_cons_zero] at hcc;refine hK.out _ _ ⟨(kx.nz hB3).cell,hcc⟩ ⟨hB3,fun _=>?_,.slice (some ⟨y,0,none⟩) 0 0,.slice A' tl.length c',v75,rfl,fun _ h=>?_,fun _=>⟨⟨A',c',rfl⟩,o2⟩,fun h=>?_⟩
      ·rw[dn_ne (by decide)];exact HU.o.2
      ·rw[dn_self hu] at h;cases h
      ·rw[dn_ne (by decide)] at h;obtain ⟨z,e,hk,hne⟩:=h9.o h;exact ⟨z,e,hk.grown hg2 (fun e2=>hne HU.o.2 HU.o.1 e2.symm),fun _ h2=>by rw[dn_self hu] at h2;cases h2⟩
     ·obtain ⟨HW,HC,v66,v70,v75,ha,h0,h4,h9⟩:=hI;rw[ha] at hG;clear ha a1;refine hG ?_;clear hG hd;(try simp only[zz]);go_simp;have hB2:Below w8.heap.size w8 (w'.alloc (.cells #[.int .i64 x0.kind,.int .i64 x0.a,.int .i64 x0.b] tA)):=HW.o.alloc HW.o.size _;have hBw:Below w'.heap.size w' (w'.alloc (.cells #[.int .i64 x0.kind,.int .i64 x0.a,.int .i64 x0.b] tA)):=bbox (Below.refl _ _) _;have hcc:=(HXV.o.bz hB2).cl (k:=0) (by simp);simp only[Nat.zero_mul,Nat.add_zero,Nat.zero_add,List.getElem_cons_zero] at hcc;refine hK.out _ _ ⟨(kx.nz hB2).cell,hcc⟩ ⟨hB2,fun h=>?_,v66,v70,.slice (some ⟨w'.heap.size,0,none⟩) 1 1,rfl,fun h h'=>?_,fun h=>?_,fun _=>⟨_,rfl,Blk.new _ _ _,fun h h' e=>?_⟩⟩
      ·rw[dn_ne (by decide)] at h ⊢;exact HC.o h
      ·rw[dn_ne (by decide)] at h h';exact ⟨(h0.o h h').1,(h0.o h h').2.bz hBw⟩
      ·rw[dn_ne (by decide)] at h;exact ⟨(h4.o h).1,(h4.o h).2.bz hBw⟩
      ·rw[dn_ne (by decide)] at h h';have:=((h0.o h h').2.1.lt _ e).2;omega
    case fin=>
     rintro a1 w9 aH ⟨HW,-,v66,v70,v75,rfl,-,h4,h9⟩;obtain ⟨⟨A9,c9,rfl⟩,o9⟩:=h4.o (by decide);obtain ⟨y9,rfl,ky9,-⟩:=h9.o (by decide);have HO9:=ax o9;clear o9 h4 h9;(try simp only[zz]);refine rdc 10 rfl fun K hK=>?_;skip;(refine stepAL (base:=w8.heap.size) (xs:=tl) (ys:=[x0]) rfl _ _ rfl rfl HO9.o rfl (AtomsV.one (f:=x0) ky9) (by simp;omega) HW.o.size ?_;intro A10 c10 w10 o10 hg10 hB10;have hB11:Below w8.heap.size w8 w10:=HW.o.trans hB10;have hcc:=(HXV.o.bz hB11).cl (k:=0) (by simp);simp only[Nat.zero_mul,Nat.add_zero,Nat.zero_add,List.getElem_cons_zero] at hcc);refine hK.out _ _ (⟨(kx.nz hB11).cell,hcc⟩) ?_;clear aH hK K;intro aH;(try simp only[zz]);rw[List.length_append,List.length_singleton] at o10;have HO10:=ax o10;have hsz8:=HF.o.size;have kx10:=kx.nz hB11;have k110:=k1.nz hB11;have HF10:=ax (HF.o.go hB11);have HR10:=ax (HR.o.bz hB11);have HFO10:=ax (HFO.o.bz hB11);clear o10 hg10 hB10 HW HO9 ky9 HO2 kx k1 HF HR HFO qk1 rk1 lk1 qkx rkx lkx z0 z1 z2;(replace qk110:=k110.cell;replace rk110:=k110.frozen;replace lk110:=k110.lt;replace qkx10:=kx10.z);refine tk2 11 rfl aH (h:=?_);(try simp only[zz]);refine rdc 12 rfl fun K hK=>?_;go_simp;refine hK.out _ _ (⟨kx10.cell,hcc⟩) (fun aH=>?_);clear hK K;refine wpAnyH_done (by kernel_rfl) ?_ _;unfold lastQ;go_simp;refine NoPanic.normal ?_;have hne:X≠w.heap.size+1:=by omega
     have kx11:=kx10.set_ 1 (.slice A10 (tl.length+1) c10);have k111:=k110.far (p:=⟨X,1,none⟩) (by simp only;omega) (.slice A10 (tl.length+1) c10);have HO11:=ax (HO10.o.setT kx10 (by decide) 1 (.slice A10 (tl.length+1) c10));have HFO11:=ax (HFO10.o.setT kx10 (by decide) 1 (.slice A10 (tl.length+1) c10));have HR11:=ax (HR10.o.set_ (q:=⟨X,1,none⟩) (by simp only;omega) (.slice A10 (tl.length+1) c10));have HF11:=ax (HF10.o.set_ (p:=⟨X,1,none⟩) (Or.inr (by simp only;omega)) (.slice A10 (tl.length+1) c10));clear hcc aH;(go_wp2_with fail)
     first
     | (refine bodyPost_ret (v:=.agg #[.slice F fs.length e1,.slice A10 (tl.length+1) c10]) (by simp[results,Tryz.results101,go_sem,qk110]) rfl ⟨_,rfl,⟨fs,tl++[x0]⟩,⟨F,e1,A10,c10,by simp,?_,?_⟩,hfl,by simp;omega,q,?_,by omega,?_⟩)
     | (refine bodyPost_ret (v:=.agg #[.slice F fs.length e1,.slice A10 (tl.length+1) c10]) (by simp[results,Tryz.results101,go_sem,qk110]) rfl ⟨_,⟨fs,tl++[x0]⟩,q,rfl,⟨F,e1,A10,c10,by simp,?_,?_⟩,hfl,by simp;omega,?_,by omega,?_⟩)
     ·exact HREL.o.rj ((HFO11.o.setT k111 (by decide) 0 _).setT (k111.set_ 0 _) (by decide) 1 _)
     ·exact (((((HO11.o.bq (base':=w.heap.size) (by omega)).setT k111 (by decide) 0 _).setT (k111.set_ 0 _) (by decide) 1 _)).reads2)
     ·exact (HR11.o.set_ (q:=⟨w.heap.size+1,0,none⟩) (by simp only;omega) _).set_ (q:=⟨w.heap.size+1,1,none⟩) (by simp only;omega) _
     ·exact (HF11.o.set_ (p:=⟨w.heap.size+1,0,none⟩) (Or.inr (by simp only;omega)) _).set_ (p:=⟨w.heap.size+1,1,none⟩) (Or.inr (by simp only;omega)) _
   have hm8b:((m8:Int) == 0)=false:=by simpa using hm80
   clear hm80 hm8;have hne:X≠w.heap.size+1:=by omega
   go_wp2_with fail
   first
   | (refine bodyPost_ret (v:=.agg #[.slice F fs.length e1,.slice G xs.length d1]) (by simp[results,Tryz.results101,go_sem,qk1]) rfl ⟨_,rfl,⟨fs,xs⟩,⟨F,e1,G,d1,rfl,?_,?_⟩,hfl,hxl,q,?_,by omega,?_⟩)
   | (refine bodyPost_ret (v:=.agg #[.slice F fs.length e1,.slice G xs.length d1]) (by simp[results,Tryz.results101,go_sem,qk1]) rfl ⟨_,⟨fs,xs⟩,q,rfl,⟨F,e1,G,d1,rfl,?_,?_⟩,hfl,hxl,?_,by omega,?_⟩)
   ·exact HREL.o.rj ((HFO.o.setT k1 (by decide) 0 _).setT (k1.set_ 0 _) (by decide) 1 _)
   ·exact ((((HO2.o.setT k1 (by decide) 0 _).setT (k1.set_ 0 _) (by decide) 1 _)).readsI).2
   ·exact (HR.o.set_ (q:=⟨w.heap.size+1,0,none⟩) (by simp only;omega) _).set_ (q:=⟨w.heap.size+1,1,none⟩) (by simp only;omega) _
   ·exact (HF.o.set_ (p:=⟨w.heap.size+1,0,none⟩) (Or.inr (by simp only;omega)) _).set_ (p:=⟨w.heap.size+1,1,none⟩) (Or.inr (by simp only;omega)) _
end
section
open Go Go.RowKit Go.Proofs
abbrev Bs:Type:=List UInt8
abbrev sv (l:Bs):Value:=.string ⟨l.toArray⟩
def encS (ss:List Bs):List Value:=ss.map sv
@[simp] theorem encS_length (ss:List Bs):(encS ss).length=ss.length:=by simp[encS]
theorem bytes_eq (a b:Bs):(a == b)=decide (a=b):=by
 by_cases h:a=b
 ·rw[decide_eq_true h,h];exact beq_self_eq_true b
 ·rw[decide_eq_false h];exact beq_eq_false_iff_ne.2 h
theorem ret_str {x y:Bs} (h:x=y):Ending.returned (Value.string ⟨x.toArray⟩)=.returned (sv y):=by rw[h]
theorem addS {P:Program} (x y:Bs) (h:x.length+y.length≤9223372036854775807) (w:World):(Op.stringOp .add ⟨x.toArray⟩ ⟨y.toArray⟩).run P w=.ok (.string ⟨(x++y).toArray⟩) w:=by
 rw[run_string_add_sum w _ _ (by simp[ByteArray.size];omega),ByteArray.mk_append_mk]
theorem bidx (l:Bs) (k:Nat) (hk:k<l.length):∀ h,(ByteArray.mk l.toArray)[k]'h=l[k]'hk:=fun _=>rfl
theorem bext (l:Bs) (i j:Nat):(ByteArray.mk l.toArray).extract i j=⟨((l.drop i).take (j - i)).toArray⟩:=ByteArray.extract_mk l i j
theorem addO {P:Program} (x y:Bs) (h:x.length+y.length≤9223372036854775807):∃ z,aJ (z=x++y)∧∀ w:World,(Op.stringOp .add ⟨x.toArray⟩ ⟨y.toArray⟩).run P w=.ok (.string ⟨z.toArray⟩) w:=
 ⟨x++y,ax rfl,fun w=>addS x y h w⟩
abbrev tS:Nat:=9
theorem infoS:(Tryz.prog.info? tS).map (fun i=>(i.zero,i.size,i.bytes))=some (some (.string ⟨#[]⟩),1,16):=by kernel_rfl
def StrsO (w:World) (base:Nat) (v:Value) (xs:List Bs):Prop:=w.ownsRow base tS 1 v xs.length (encS xs)∧Lim xs.length
def StrsV (w:World) (lo hi:Nat) (A:Option Addr) (xs:List Bs):Prop:=Rd w lo hi 1 A xs.length (encS xs)
section
variable {w w':World} {base base' lo hi:Nat} {v:Value} {fs:List Bs} {A:Option Addr}
theorem StrsO.bz (h:StrsO w base v fs) (hb:Below w.heap.size w w'):StrsO w' base v fs:=⟨own_below h.1 hb,h.2⟩
theorem StrsO.setb (h:StrsO w base v fs) {a:Addr} (ha:a.block<base) (u:Value):StrsO (w.setCell a u) base v fs:=⟨ownsRow_setCell_below h.1 ha u,h.2⟩
theorem StrsO.abv {lo:Nat} (h:StrsO w base v fs) (hb:Abv lo w w') (hl:lo≤base):StrsO w' base v fs:=⟨own_abv h.1 hb hl,h.2⟩
theorem StrsO.bq (h:StrsO w base v fs) (hb:base'≤base):StrsO w base' v fs:=⟨own_lower h.1 hb,h.2⟩
theorem StrsO.rj (h:StrsO w base v fs):∃ A c,v=.slice A fs.length c∧StrsV w base w.heap.size A fs:=own_reads h.1 h.2
theorem StrsV.at (h:StrsV w lo hi A fs) {k:Nat} (hk:k<fs.length):∃ b o,A=some ⟨b,o,none⟩∧w.cell? ⟨b,o+k,none⟩=some (sv fs[k]):=by
 obtain ⟨b,o,e,_,hb,hc⟩:=h.raw.2 (by omega);exact ⟨b,o,e,hc _ _ (by simp[encS,List.getElem?_eq_getElem hk])⟩
theorem StrsV.bz (h:StrsV w lo hi A fs) (hb:Below w.heap.size w w'):StrsV w' lo hi A fs:=Rd.bz h hb
theorem StrsV.mono {lo' hi':Nat} (h:StrsV w lo hi A fs) (e1:lo'≤lo) (e2:hi≤hi'):StrsV w lo' hi' A fs:=Rd.mono h e1 e2
theorem StrsV.le (h:StrsV w lo hi A fs):Lim fs.length:=h.lim
theorem StrsO.empty (w:World) {g:Nat} (hg:g=w.heap.size):StrsO (w.alloc (.cells #[] tS)) g (.slice (some ⟨g,0,none⟩) 0 0) []:=by
 subst hg;exact ⟨own_empty w _ _,by simp[Lim]⟩
end
section
variable {ops:Array Oper} {rest:List Oper} {o:Oper} {a:Act} {Q:Exit→Act→World→Prop} {w:World}
theorem appS (hgd:o.guard=none) (s x:Operand) (ho:o.op=.call { callee:=.builtin .append,args:=#[s,x],argTypes:=#[181,181] })
  {base:Nat} {v:Value} {xs:List Bs} (hs:a.eval s=v) (hown:StrsO w base v xs) (g0:Nat) (n:Bs) (hx:a.eval x=.slice (some ⟨g0,0,none⟩) 1 1) (hc:w.cell? ⟨g0,0,none⟩=some (sv n))
  (hn:xs.length+1≤1049600) (hb:base≤w.heap.size)
  (h:∀ g c w',StrsO w' base (.slice (some ⟨g,0,none⟩) (xs.length+1) c) (xs++[n])→w.grownBy w' v.ownBlock→Below base w w'→wpList Tryz.prog ops Q rest (a.put o.dst (.slice (some ⟨g,0,none⟩) (xs.length+1) c)) w'):wpList Tryz.prog ops Q (o :: rest) a w:=by
 refine wpList_app hgd s x 181 ho Tryz.underlying181 infoS rfl (by decide) (by decide) hs hown.1 ⟨g0,0,none⟩ [sv n] hx rfl ?_ (by simp[Value.oneCell']) hn hb ?_
 ·intro j u hu
  match j,hu with
  | 0,hu=>simp at hu;subst hu;exact hc
 ·intro g c w' h1 h2 h3;exact h g c w' ⟨by simpa[encS] using h1,by simp[Lim];omega⟩ h2 h3
end
def tnameL (t : Int) : Bs :=
  if t = 0 then [110, 105, 108] else if t = 1 then [97] else if t = 2 then [98] else if t = 3 then [99] else if t = 4 then [100] else
  if t = 5 then [112] else if t = 6 then [113] else if t = 7 then [114] else if t = 8 then [115] else []
theorem tnameL_len (t : Int) : (tnameL t).length ≤ 3 := by unfold tnameL; repeat' split
                                                           all_goals decide
theorem tnameL_out {t : Int} (h : jq t = false) : tnameL t = [] := by
  have h' : ¬ (0 ≤ t ∧ t ≤ 8) := fun e => by rw [zjA.2 e] at h; cases h
  unfold tnameL
  repeat rw [if_neg (by omega)]
def parseT (l : Bs) : Option Nat := (List.range 9).find? fun n => decide (tnameL n = l)
theorem parseT_some {l : Bs} {k : Nat} (hk : k < 9) (h : tnameL k = l) (hn : ∀ j, j < k → tnameL j ≠ l) : parseT l = some k := by
  unfold parseT;rw [List.find?_range_eq_some];exact ⟨by simpa using h, by simpa using hk, fun j hj => by simpa using hn j hj⟩
theorem parseT_none {l : Bs} (hn : ∀ j : Nat, j < 9 → tnameL j ≠ l) : parseT l = none := by
  unfold parseT;rw [List.find?_eq_none];intro j hj;simpa using hn j (by simpa using hj)
def fmtF (f : Fct) : Bs := if f.eq then tnameL f.a ++ [61] ++ tnameL f.b else tnameL f.a ++ [33, 61] ++ tnameL f.b
theorem fmtF_len (f : Fct) : (fmtF f).length ≤ 8 := by
  have h1 := tnameL_len f.a;have h2 := tnameL_len f.b;unfold fmtF; split <;> simp <;> omega
def cutAt (c : UInt8) : Bs → Option (Bs × Bs)
  | [] => none
  | x :: r => if x = c then some ([], r) else (cutAt c r).map fun p => (x :: p.1, p.2)
theorem cutAt_at {c : UInt8} : ∀ {l : Bs} {i : Nat} (h : i < l.length), l[i] = c → (∀ j (hj : j < i), l[j] ≠ c) → cutAt c l = some (l.take i, l.drop (i + 1))
  | x :: r, 0, _, h, _ => by simp only [List.getElem_cons_zero] at h; simp [cutAt, h]
  | x :: r, i + 1, hi, h, hn => by
    have hx : x ≠ c := hn 0 (by omega);have := cutAt_at (l := r) (i := i) (by simpa using hi) (by simpa using h) fun j hj => hn (j + 1) (by omega);simp [cutAt, hx, this]
theorem cutAt_no {c : UInt8} : ∀ {l : Bs}, (∀ j (hj : j < l.length), l[j] ≠ c) → cutAt c l = none
  | [], _ => rfl
  | x :: r, h => by
    have hx : x ≠ c := h 0 (by simp);have := cutAt_no (l := r) fun j hj => h (j + 1) (by simp; omega);simp [cutAt, hx, this]
def pairP (eq : Bool) : Option Nat → Option Nat → Option Fct
  | some x, some y => some ⟨eq, (x : Int), (y : Int)⟩
  | _, _ => none
def pairF (eq : Bool) (a b : Bs) : Option Fct := pairP eq (parseT a) (parseT b)
def parseF (l : Bs) : Option Fct := if 9 < l.length then none else match cutAt 61 l with
  | none => none
  | some (a, b) => if a.getLast? = some 33 then pairF false a.dropLast b else pairF true a b
def sign2 (x : UInt8) : Bool := x == 62 || x == 126
def cutX : Bs → Option (Bs × UInt8 × Bs)
  | [] => none
  | x :: r => if sign2 x then some ([], x, r) else (cutX r).map fun p => (x :: p.1, p.2)
theorem cutX_at : ∀ {l : Bs} {i : Nat} (h : i < l.length), sign2 l[i] = true → (∀ j (hj : j < i), sign2 l[j] = false) → cutX l = some (l.take i, l[i], l.drop (i + 1))
  | x :: r, 0, _, h, _ => by simp only [List.getElem_cons_zero] at h; simp [cutX, h]
  | x :: r, i + 1, hi, h, hn => by
    have hx : sign2 x = false := hn 0 (by omega);have := cutX_at (l := r) (i := i) (by simpa using hi) (by simpa using h) fun j hj => hn (j + 1) (by omega);simp [cutX, hx, this]
theorem cutX_no : ∀ {l : Bs}, (∀ j (hj : j < l.length), sign2 l[j] = false) → cutX l = none
  | [], _ => rfl
  | x :: r, h => by
    have hx : sign2 x = false := h 0 (by simp);have := cutX_no (l := r) fun j hj => h (j + 1) (by simp; omega);simp [cutX, hx, this]
def pairX (kd : Int) : Option Nat → Option Nat → Option Atm
  | some m, some n => some ⟨kd, (m : Int), (n : Int)⟩
  | _, _ => none
def parseX (l : Bs) : Option Atm := if 7 < l.length then none else match cutX l with
  | none => none
  | some (a, x, b) => pairX (if x = 126 then 2 else 1) (parseT a) (parseT b)
def splitA (c : UInt8) (acc : Bs) : Bs → List Bs
  | [] => [acc]
  | x :: r => if x = c then acc :: splitA c [] r else splitA c (acc ++ [x]) r
def splitL (c : UInt8) (l : Bs) : List Bs := splitA c [] l
theorem splitA_len (c : UInt8) : ∀ (l acc : Bs), (splitA c acc l).length ≤ l.length + 1
  | [], acc => by simp [splitA]
  | x :: r, acc => by
    have h1 := splitA_len c r [];have h2 := splitA_len c r (acc ++ [x]);unfold splitA
    split
    · simp only [List.length_cons]; omega
    · simp only [List.length_cons]; omega
def wordsL (l : Bs) : List Bs := (splitL 32 l).filter fun x => decide (x ≠ [])
theorem wordsL_len (l : Bs) : (wordsL l).length ≤ l.length + 1 := Nat.le_trans (List.length_filter_le _ _) (splitA_len 32 l [])
def outF (fs : List Fct) : Nat → Bs
  | 0 => []
  | k + 1 => (if 0 < k then outF fs k ++ [32, 38, 32] else outF fs k) ++ fmtF (fs.getD k default)
def signX (x : Atm) : Bs := if x.kind = 2 then [126] else [62]
def outSX (o : Bs) (xs : List Atm) : Nat → Bs
  | 0 => o
  | k + 1 => (if k = 0 then outSX o xs k ++ [32, 124, 32] else outSX o xs k ++ [32, 42, 32]) ++ tnameL (xs.getD k default).a ++ signX (xs.getD k default) ++ tnameL (xs.getD k default).b
def factsT (fs : List Fct) : Bs := if fs.length = 0 then [116, 114, 117, 101] else outF fs fs.length
def textA (a : Asn) : Bs := if a.atoms.length = 0 then factsT a.facts ++ [32, 124, 32, 101, 109, 112] else outSX (factsT a.facts) a.atoms a.atoms.length
def fmtA (a : Asn) : Bs := if a.valid then textA a else []
theorem outF_len (fs : List Fct) : ∀ (k : Nat), (outF fs k).length ≤ k * 11
  | 0 => by simp [outF]
  | k + 1 => by
    have h1 := outF_len fs k;have h2 := fmtF_len (fs.getD k default);unfold outF; split <;> simp only [List.length_append, List.length_cons, List.length_nil] <;> omega
theorem outX_len (o : Bs) (xs : List Atm) : ∀ (k : Nat), (outSX o xs k).length ≤ o.length + k * 10
  | 0 => by simp [outSX]
  | k + 1 => by
    have h1 := outX_len o xs k;have h2 := tnameL_len (xs.getD k default).a;have h3 := tnameL_len (xs.getD k default).b;have h4 : (signX (xs.getD k default)).length = 1 := by unfold signX; split <;> rfl
    unfold outSX; split <;> simp only [List.length_append, List.length_cons, List.length_nil, h4] <;> omega
theorem factsT_len (fs : List Fct) : (factsT fs).length ≤ 4 + fs.length * 11 := by
  have h := outF_len fs fs.length;unfold factsT; split
  · simp
  · omega
theorem textA_len (a : Asn) : (textA a).length ≤ 10 + a.facts.length * 11 + a.atoms.length * 10 := by
  have h1 := factsT_len a.facts;have h2 := outX_len (factsT a.facts) a.atoms a.atoms.length;unfold textA; split
  · simp only [List.length_append, List.length_cons, List.length_nil]; omega
  · omega
def stepA (st : List Fct × List Atm × Bool) (x : Bs) : Option (List Fct × List Atm) :=
  match (if st.2.2 then none else parseF x), (if st.2.2 then parseX x else none) with
  | some f, _ => some (st.1 ++ [f], st.2.1)
  | none, some y => some (st.1, st.2.1 ++ [y])
  | none, none => if x ≠ [116, 114, 117, 101] ∧ x ≠ [101, 109, 112] then none else some (st.1, st.2.1)
def readA : List Bs → List Fct × List Atm × Bool → Option Asn
  | [], st => some ⟨st.1, st.2.1⟩
  | [x], st => (stepA st x).map fun p => ⟨p.1, p.2⟩
  | x :: y :: r, st => match stepA st x with
    | none => none
    | some p => readA r (p.1, p.2, st.2.2 || decide (y = [124]))
def parseA (l : Bs) : Option Asn := if 300 < l.length then none else match readA (wordsL l) ([], [], false) with
  | none => none
  | some a => if fmtA a = l ∧ l ≠ [] then some a else none
theorem parseA_valid {l : Bs} {a : Asn} (h : parseA l = some a) : a.valid = true ∧ fmtA a = l := by
  unfold parseA at h
  split at h
  · cases h
  split at h
  · cases h
  split at h
  · rename_i b hb hx
    injection h with h;subst h;refine ⟨?_, hx.1⟩;cases hv : b.valid
    · exfalso
      have := hx.1;unfold fmtA at this;rw [hv] at this;exact hx.2 this.symm
    · rfl
  · cases h
theorem c_TermName (t:Int) (w:World):Calls Tryz.prog 276 #[.int .i64 t] w fun e w'=>e=.returned (sv (tnameL t))∧w=w':=by
 cases ht:jq t
 ·(go_enter Tryz.func276,Tryz.ntmps276);(go_wp2_with (go_at_call 174;refine (c_spec_l1Is _ _).mono ?_;rintro e w' ⟨rfl,rfl⟩;rw[ht]));go_ret;exact ⟨by rw[tnameL_out ht];rfl,rfl⟩
 ·have hh:=zjA.1 ht;have h9:t=0∨t=1∨t=2∨t=3∨t=4∨t=5∨t=6∨t=7∨t=8:=by omega
  clear hh;rcases h9 with rfl|rfl|rfl|rfl|rfl|rfl|rfl|rfl|rfl
  all_goals
   (go_enter Tryz.func276,Tryz.ntmps276);(go_wp2_with (go_at_call 174;refine (c_spec_l1Is _ _).mono ?_;rintro e w' ⟨rfl,rfl⟩;rw[ht]));go_ret;exact ⟨rfl,rfl⟩
theorem c_ParseTerm (l:Bs) (w:World):Calls Tryz.prog 239 #[sv l] w fun e w'=>e=.returned (.tuple #[.int .i64 ((parseT l).getD 0:Nat),.bool (parseT l).isSome])∧w=w':=by
 (go_enter Tryz.func239,Tryz.ntmps239);(go_wp2_with fail)
 go_loopw [4] (fun i wr=>∃ k:Nat,k≤9∧i=.int .i64 k∧aJ (∀ j:Nat,j<k→tnameL j≠l)∧wr=w) (fun i _=>9 - (intOf i).toNat)
 case atStart=>exact ⟨0,by omega,rfl,ax fun j h=>by omega,rfl⟩
 case round=>
  obtain ⟨k,hk,rfl,HN,rfl⟩:=hrel;by_cases h9:k<9
  ·have hki:(k:Int)≤8:=by omega
   by_cases he:tnameL k=l
   ·have hb:(tnameL k == l)=true:=by rw[bytes_eq];simpa using he
    have HR:=ax (parseT_some h9 he HN.o);clear he;(go_wp2_with (go_at_call 276;refine (c_TermName _ _).mono ?_;rintro e w' ⟨rfl,rfl⟩));refine bodyPost_ret (v:=.tuple #[.int .i64 k,.bool true]) (by simp[results,Tryz.results239,go_sem]) rfl ⟨by rw[HR.o];rfl,rfl⟩
   ·have hb:(tnameL k == l)=false:=by rw[bytes_eq];simpa using he
    have HM:aJ (∀ j:Nat,j<k+1→tnameL j≠l):=ax fun j hj=>by
     by_cases e:j=k
     ·subst e;exact he
     ·exact HN.o j (by omega)
    clear he;(go_wp2_with (go_at_call 276;refine (c_TermName _ _).mono ?_;rintro e w' ⟨rfl,rfl⟩))
    go_round
    case rel=>exact ⟨k+1,by omega,by go_num,HM,by first|rfl|trivial⟩
    case measure=>simp[intOf];omega
  ·obtain rfl:k=9:=by omega
   have HR:=ax (parseT_none HN.o);(go_wp2_with fail);refine bodyPost_ret (v:=.tuple #[.int .i64 0,.bool false]) (by simp[results,Tryz.results239,go_sem]) rfl ⟨by rw[HR.o];rfl,rfl⟩
theorem c_ParseTermX (l:Bs) (i j:Nat) (w:World):Calls Tryz.prog 239 #[.string ((ByteArray.mk l.toArray).extract i j)] w fun e w'=>e=.returned (.tuple #[.int .i64 ((parseT ((l.drop i).take (j - i))).getD 0:Nat),.bool (parseT ((l.drop i).take (j - i))).isSome])∧w=w':=by
 rw[bext];exact c_ParseTerm _ w
theorem c_l1Text (f:Fct) (w:World):Calls Tryz.prog 277 #[f.val] w fun e w'=>e=.returned (sv (fmtF f))∧Below w.heap.size w w':=by
 have ha:=tnameL_len f.a;have hb:=tnameL_len f.b;obtain ⟨eq,a,b⟩:=f;simp only at ha hb;unfold Fct.val;simp only;cases eq
 ·skip;have h1:=fun w:World=>addS (P:=Tryz.prog) (tnameL a) [33,61] (by simp;omega) w;have h2:=fun w:World=>addS (P:=Tryz.prog) (tnameL a++[33,61]) (tnameL b) (by simp;omega) w;(go_enter Tryz.func277,Tryz.ntmps277);(go_wp2_with fail)
  go_region_held3 (fun w'=>∀ i,w'.cell? ⟨w.heap.size,i,none⟩=#[.bool false,.int .i64 a,.int .i64 b][i]?)
   (exact Blk.cell blks)
   (first|(go_at_call 276;refine (c_TermName _ _).mono ?_;rintro e w' ⟨rfl,rfl⟩))
  all_goals
   (go_wp2_with fail);go_ret;exact ⟨ret_str (by simp[fmtF]),bel⟩
 ·skip;have h1:=fun w:World=>addS (P:=Tryz.prog) (tnameL a) [61] (by simp;omega) w;have h2:=fun w:World=>addS (P:=Tryz.prog) (tnameL a++[61]) (tnameL b) (by simp;omega) w;(go_enter Tryz.func277,Tryz.ntmps277);(go_wp2_with fail)
  go_region_held3 (fun w'=>∀ i,w'.cell? ⟨w.heap.size,i,none⟩=#[.bool true,.int .i64 a,.int .i64 b][i]?)
   (exact Blk.cell blks)
   (first|(go_at_call 276;refine (c_TermName _ _).mono ?_;rintro e w' ⟨rfl,rfl⟩))
  all_goals
   (go_wp2_with fail);go_ret;exact ⟨ret_str (by simp[fmtF]),bel⟩
theorem u8_eq (c:UInt8) (n:Nat) (hn:n<256):((c.toNat:Int) == (n:Int))=decide (c=UInt8.ofNat n):=by
 rw[Bool.eq_iff_iff,beq_iff_eq,decide_eq_true_iff];constructor
 ·intro h;have:c.toNat=n:=by omega
  rw[←this];simp
 ·rintro rfl;rw[UInt8.toNat_ofNat',Nat.mod_eq_of_lt (by omega)]
theorem parseF_cut {l:Bs} {k:Nat} (hl:l.length≤9) (hk:k<l.length) (h:l[k]=61) (hn:∀ j (hj:j<k),l[j]≠61) :
  parseF l=if (l.take k).getLast? = some 33 then pairF false (l.take k).dropLast (l.drop (k+1)) else pairF true (l.take k) (l.drop (k+1)):=by
 unfold parseF;rw[if_neg (by omega),cutAt_at hk h hn]
theorem parseF_no {l:Bs} (hn:∀ j (hj:j<l.length),l[j]≠61):parseF l=none:=by
 unfold parseF;rw[cutAt_no hn]
 split<;>rfl
def fct0:Fct:=⟨false,0,0⟩
theorem c_ParseFact (l:Bs) (w:World):Calls Tryz.prog 190 #[sv l] w fun e w'=>e=.returned (.tuple #[((parseF l).getD fct0).val,.bool (parseF l).isSome])∧Below w.heap.size w w':=by
 by_cases hl:l.length≤9
 ·have hli:(l.length:Int)≤9:=by omega
  (go_enter Tryz.func190,Tryz.ntmps190);(go_wp2_with fail)
  go_loopw [4] (fun i wr=>∃ k:Nat,k≤l.length∧i=.int .i64 k∧aJ (∀ j (hj:j<k) (hj2:j<l.length),l[j]≠61)∧wr=w.alloc (.cells #[.bool false,.int .i64 0,.int .i64 0] tF)) (fun i _=>l.length - (intOf i).toNat)
  case atStart=>exact ⟨0,by omega,rfl,ax fun j h=>by omega,rfl⟩
  case round=>
   obtain ⟨k,hk,rfl,HN,rfl⟩:=hrel;by_cases hlt:k<l.length
   ·have hki:(k:Int)<(l.length:Int):=by omega
    have hx:=bidx l k hlt;by_cases hc:l[k]=61
    ·have HP:=ax (parseF_cut hl hlt hc fun j hj=>HN.o j hj (by omega));obtain ⟨c,hcc⟩:∃ c,c=l[k]:=⟨_,rfl⟩;rw[←hcc] at hx hc;have hb:((c.toNat:Int) == 61)=true:=by rw[show (61:Int)=((61:Nat):Int) from rfl,u8_eq c 61 (by decide)];simpa using hc
     clear hcc hc;by_cases hk0:0<k
     ·obtain ⟨m,hm⟩:∃ m,m+1=k:=⟨k - 1,by omega⟩;have hk0i:(0:Int)<(k:Int):=by omega
      have hmi:(k:Int) - 1=(m:Int):=by omega
      have hml:(m:Int)<(l.length:Int):=by omega
      have hx2:=bidx l m (by omega)
      have hL0:(l.take k).getLast? = some (l[m]'(by omega)):=by
       subst hm;rw[List.getLast?_eq_getElem?,List.length_take,Nat.min_eq_left (by omega),Nat.add_sub_cancel,List.getElem?_take,if_pos (by omega),List.getElem?_eq_getElem (by omega)]
      have hdrop:(l.take k).dropLast=l.take m:=by
       subst hm;rw[List.dropLast_take (by omega),Nat.add_sub_cancel]
      obtain ⟨d,hdd⟩:∃ d,d=l[m]'(by omega):=⟨_,rfl⟩;rw[←hdd] at hx2 hL0;clear hdd;by_cases hd:d=33
      ·have hb2:((d.toNat:Int) == 33)=true:=by rw[show (33:Int)=((33:Nat):Int) from rfl,u8_eq d 33 (by decide)];simpa using hd
       have hlast:(l.take k).getLast? = some 33:=by rw[hL0,hd]
       clear hL0 hd hm;obtain ⟨pa,hpa⟩:∃ x,x=parseT ((l.drop 0).take (m - 0)):=⟨_,rfl⟩;have ca:=fun w=>c_ParseTermX l 0 m w;rw[←hpa] at ca;replace ca:=ax ca;obtain ⟨pb,hpb⟩:∃ x,x=parseT ((l.drop (k+1)).take (l.length - (k+1))):=⟨_,rfl⟩;have cb:=fun w=>c_ParseTermX l (k+1) l.length w;rw[←hpb] at cb;replace cb:=ax cb
       have hE:aJ (parseF l=pairP false pa pb):=ax (by
        rw[HP.o,hpa,hpb,List.drop_zero,Nat.sub_zero,List.take_of_length_le (l:=l.drop (k+1)) (by simp)]
        rw[if_pos hlast,hdrop];rfl)
       clear hpa hpb HP
       cases pa with
       | none=>
        have hR:aJ (parseF l=none):=ax hE.o;clear hE;(go_wp2_with fail);refine (ca.o _).mono ?_;rintro e w2 ⟨rfl,rfl⟩;(go_wp2_with fail);refine (cb.o _).mono ?_;rintro e w2 ⟨rfl,rfl⟩;(go_wp2_with fail);refine bodyPost_ret (v:=.tuple #[.agg #[.bool false,.int .i64 0,.int .i64 0],.bool false]) (by simp[results,Tryz.results190,go_sem]) rfl ⟨by rw[hR.o];rfl,bel⟩
       | some a=>
        cases pb with
        | none=>
         have hR:aJ (parseF l=none):=ax hE.o;clear hE;(go_wp2_with fail);refine (ca.o _).mono ?_;rintro e w2 ⟨rfl,rfl⟩;(go_wp2_with fail);refine (cb.o _).mono ?_;rintro e w2 ⟨rfl,rfl⟩;(go_wp2_with fail);refine bodyPost_ret (v:=.tuple #[.agg #[.bool false,.int .i64 0,.int .i64 0],.bool false]) (by simp[results,Tryz.results190,go_sem]) rfl ⟨by rw[hR.o];rfl,bel⟩
        | some b=>
         have hR:aJ (parseF l=some ⟨false,(a:Int),(b:Int)⟩):=ax hE.o;clear hE;(go_wp2_with fail);refine (ca.o _).mono ?_;rintro e w2 ⟨rfl,rfl⟩;(go_wp2_with fail);refine (cb.o _).mono ?_;rintro e w2 ⟨rfl,rfl⟩;(go_wp2_with fail);refine bodyPost_ret (v:=.tuple #[.agg #[.bool false,.int .i64 a,.int .i64 b],.bool true]) (by simp[results,Tryz.results190,go_sem]) rfl ⟨by rw[hR.o];rfl,bel⟩
      ·have hb2:((d.toNat:Int) == 33)=false:=by rw[show (33:Int)=((33:Nat):Int) from rfl,u8_eq d 33 (by decide)];simpa using hd
       have hlast:¬(l.take k).getLast? = some 33:=by rw[hL0];simpa using hd
       clear hL0 hd hm;obtain ⟨pa,hpa⟩:∃ x,x=parseT ((l.drop 0).take (k - 0)):=⟨_,rfl⟩;have ca:=fun w=>c_ParseTermX l 0 k w;rw[←hpa] at ca;replace ca:=ax ca;obtain ⟨pb,hpb⟩:∃ x,x=parseT ((l.drop (k+1)).take (l.length - (k+1))):=⟨_,rfl⟩;have cb:=fun w=>c_ParseTermX l (k+1) l.length w;rw[←hpb] at cb;replace cb:=ax cb
       have hE:aJ (parseF l=pairP true pa pb):=ax (by
        rw[HP.o,hpa,hpb,List.drop_zero,Nat.sub_zero,List.take_of_length_le (l:=l.drop (k+1)) (by simp)]
        rw[if_neg hlast];rfl)
       clear hpa hpb HP
       cases pa with
       | none=>
        have hR:aJ (parseF l=none):=ax hE.o;clear hE;(go_wp2_with fail);refine (ca.o _).mono ?_;rintro e w2 ⟨rfl,rfl⟩;(go_wp2_with fail);refine (cb.o _).mono ?_;rintro e w2 ⟨rfl,rfl⟩;(go_wp2_with fail);refine bodyPost_ret (v:=.tuple #[.agg #[.bool false,.int .i64 0,.int .i64 0],.bool false]) (by simp[results,Tryz.results190,go_sem]) rfl ⟨by rw[hR.o];rfl,bel⟩
       | some a=>
        cases pb with
        | none=>
         have hR:aJ (parseF l=none):=ax hE.o;clear hE;(go_wp2_with fail);refine (ca.o _).mono ?_;rintro e w2 ⟨rfl,rfl⟩;(go_wp2_with fail);refine (cb.o _).mono ?_;rintro e w2 ⟨rfl,rfl⟩;(go_wp2_with fail);refine bodyPost_ret (v:=.tuple #[.agg #[.bool false,.int .i64 0,.int .i64 0],.bool false]) (by simp[results,Tryz.results190,go_sem]) rfl ⟨by rw[hR.o];rfl,bel⟩
        | some b=>
         have hR:aJ (parseF l=some ⟨true,(a:Int),(b:Int)⟩):=ax hE.o;clear hE;(go_wp2_with fail);refine (ca.o _).mono ?_;rintro e w2 ⟨rfl,rfl⟩;(go_wp2_with fail);refine (cb.o _).mono ?_;rintro e w2 ⟨rfl,rfl⟩;(go_wp2_with fail);refine bodyPost_ret (v:=.tuple #[.agg #[.bool true,.int .i64 a,.int .i64 b],.bool true]) (by simp[results,Tryz.results190,go_sem]) rfl ⟨by rw[hR.o];rfl,bel⟩
     ·have hk0i:¬(0:Int)<(k:Int):=by omega
      have hlast:¬(l.take k).getLast? = some 33:=by
       obtain rfl:k=0:=by omega
       simp
      clear hk0;obtain ⟨pa,hpa⟩:∃ x,x=parseT ((l.drop 0).take (k - 0)):=⟨_,rfl⟩;have ca:=fun w=>c_ParseTermX l 0 k w;rw[←hpa] at ca;replace ca:=ax ca;obtain ⟨pb,hpb⟩:∃ x,x=parseT ((l.drop (k+1)).take (l.length - (k+1))):=⟨_,rfl⟩;have cb:=fun w=>c_ParseTermX l (k+1) l.length w;rw[←hpb] at cb;replace cb:=ax cb
      have hE:aJ (parseF l=pairP true pa pb):=ax (by
       rw[HP.o,hpa,hpb,List.drop_zero,Nat.sub_zero,List.take_of_length_le (l:=l.drop (k+1)) (by simp)]
       rw[if_neg hlast];rfl)
      clear hpa hpb HP
      cases pa with
      | none=>
       have hR:aJ (parseF l=none):=ax hE.o;clear hE;(go_wp2_with fail);refine (ca.o _).mono ?_;rintro e w2 ⟨rfl,rfl⟩;(go_wp2_with fail);refine (cb.o _).mono ?_;rintro e w2 ⟨rfl,rfl⟩;(go_wp2_with fail);refine bodyPost_ret (v:=.tuple #[.agg #[.bool false,.int .i64 0,.int .i64 0],.bool false]) (by simp[results,Tryz.results190,go_sem]) rfl ⟨by rw[hR.o];rfl,bel⟩
      | some a=>
       cases pb with
       | none=>
        have hR:aJ (parseF l=none):=ax hE.o;clear hE;(go_wp2_with fail);refine (ca.o _).mono ?_;rintro e w2 ⟨rfl,rfl⟩;(go_wp2_with fail);refine (cb.o _).mono ?_;rintro e w2 ⟨rfl,rfl⟩;(go_wp2_with fail);refine bodyPost_ret (v:=.tuple #[.agg #[.bool false,.int .i64 0,.int .i64 0],.bool false]) (by simp[results,Tryz.results190,go_sem]) rfl ⟨by rw[hR.o];rfl,bel⟩
       | some b=>
        have hR:aJ (parseF l=some ⟨true,(a:Int),(b:Int)⟩):=ax hE.o;clear hE;(go_wp2_with fail);refine (ca.o _).mono ?_;rintro e w2 ⟨rfl,rfl⟩;(go_wp2_with fail);refine (cb.o _).mono ?_;rintro e w2 ⟨rfl,rfl⟩;(go_wp2_with fail);refine bodyPost_ret (v:=.tuple #[.agg #[.bool true,.int .i64 a,.int .i64 b],.bool true]) (by simp[results,Tryz.results190,go_sem]) rfl ⟨by rw[hR.o];rfl,bel⟩
    ·obtain ⟨c,hcc⟩:∃ c,c=l[k]:=⟨_,rfl⟩;rw[←hcc] at hx hc;have hb:((c.toNat:Int) == 61)=false:=by rw[show (61:Int)=((61:Nat):Int) from rfl,u8_eq c 61 (by decide)];simpa using hc
     have HM:aJ (∀ j (hj:j<k+1) (hj2:j<l.length),l[j]≠61):=ax fun j hj hj2=>by
      by_cases e:j=k
      ·subst e;rw[←hcc];exact hc
      ·exact HN.o j (by omega) hj2
     clear hcc hc;(go_wp2_with fail)
     go_round
     case rel=>exact ⟨k+1,by omega,by go_num,HM,by first|rfl|trivial⟩
     case measure=>simp[intOf];omega
   ·obtain rfl:k=l.length:=by omega
    have HP:=ax (parseF_no fun j hj=>HN.o j hj hj);(go_wp2_with fail);refine bodyPost_ret (v:=.tuple #[.agg #[.bool false,.int .i64 0,.int .i64 0],.bool false]) (by simp[results,Tryz.results190,go_sem]) rfl ⟨by rw[HP.o];rfl,bel⟩
 ·have hli:¬(l.length:Int)≤9:=by omega
  have hl0:(0:Int)<(l.length:Int):=by omega
  have HP:=ax (show parseF l=none by unfold parseF;rw[if_pos (by omega)]);clear hl;(go_enter Tryz.func190,Tryz.ntmps190);(go_wp2_with fail)
  go_loopw [4] (fun i wr=>i=.int .i64 0∧wr=w.alloc (.cells #[.bool false,.int .i64 0,.int .i64 0] tF)) (fun _ _=>0)
  case atStart=>exact ⟨rfl,rfl⟩
  case round=>
   obtain ⟨rfl,rfl⟩:=hrel;(go_wp2_with fail);refine bodyPost_ret (v:=.tuple #[.agg #[.bool false,.int .i64 0,.int .i64 0],.bool false]) (by simp[results,Tryz.results190,go_sem]) rfl ⟨by rw[HP.o];rfl,bel⟩
theorem parseX_cut {l:Bs} {k:Nat} (hl:l.length≤7) (hk:k<l.length) (h:sign2 l[k]=true) (hn:∀ j (hj:j<k),sign2 l[j]=false) :
  parseX l=pairX (if l[k]=126 then 2 else 1) (parseT (l.take k)) (parseT (l.drop (k+1))):=by
 unfold parseX;rw[if_neg (by omega),cutX_at hk h hn]
theorem parseX_no {l:Bs} (hn:∀ j (hj:j<l.length),sign2 l[j]=false):parseX l=none:=by
 unfold parseX;rw[cutX_no hn]
 split<;>rfl
theorem pairX_isSome (kd:Int) (a:Nat) (pb:Option Nat):(pairX kd (some a) pb).isSome=pb.isSome:=by cases pb<;>rfl
theorem c_ParseAtom (l:Bs) (w:World):Calls Tryz.prog 191 #[sv l] w fun e w'=>∃ y:Atm,e=.returned (.tuple #[.agg #[.int .i64 y.kind,.int .i64 y.a,.int .i64 y.b],.bool (parseX l).isSome])∧(∀ z,parseX l=some z→y=z)∧Below w.heap.size w w':=by
 by_cases hl:l.length≤7
 ·have hli:(l.length:Int)≤7:=by omega
  (go_enter Tryz.func191,Tryz.ntmps191);(go_wp2_with fail)
  go_loopw [4] (fun i wr=>∃ k:Nat,k≤l.length∧i=.int .i64 k∧aJ (∀ j (hj:j<k) (hj2:j<l.length),sign2 l[j]=false)∧wr=w.alloc (.cells #[.int .i64 0,.int .i64 0,.int .i64 0] tA)) (fun i _=>l.length - (intOf i).toNat)
  case atStart=>exact ⟨0,by omega,rfl,ax fun j h=>by omega,rfl⟩
  case round=>
   obtain ⟨k,hk,rfl,HN,rfl⟩:=hrel;by_cases hlt:k<l.length
   ·have hki:(k:Int)<(l.length:Int):=by omega
    have hx:=bidx l k hlt;cases hc:sign2 l[k]
    ·obtain ⟨c,hcc⟩:∃ c,c=l[k]:=⟨_,rfl⟩
     have HM:aJ (∀ j (hj:j<k+1) (hj2:j<l.length),sign2 l[j]=false):=ax fun j hj hj2=>by
      by_cases e:j=k
      ·subst e;exact hc
      ·exact HN.o j (by omega) hj2
     rw[←hcc] at hx hc;have h2:¬c=62∧¬c=126:=by unfold sign2 at hc;simpa using hc
     have hb1:((c.toNat:Int) == 62)=false:=by rw[show (62:Int)=((62:Nat):Int) from rfl,u8_eq c 62 (by decide)];simpa using h2.1
     have hb1x:¬((c.toNat:Int)=62):=by simpa using hb1
     have hb1y:((c.toNat:Int) != 62)=true:=by simpa using hb1
     have hb2:((c.toNat:Int) == 126)=false:=by rw[show (126:Int)=((126:Nat):Int) from rfl,u8_eq c 126 (by decide)];simpa using h2.2
     have hb2x:¬((c.toNat:Int)=126):=by simpa using hb2
     have hb2y:((c.toNat:Int) != 126)=true:=by simpa using hb2
     clear hcc hc h2;(go_wp2_with fail)
     go_round
     case rel=>exact ⟨k+1,by omega,by go_num,HM,by first|rfl|trivial⟩
     case measure=>simp[intOf];omega
    ·have HP:=ax (parseX_cut hl hlt hc fun j hj=>HN.o j hj (by omega));obtain ⟨c,hcc⟩:∃ c,c=l[k]:=⟨_,rfl⟩;rw[←hcc] at hx hc HP;have h2:c=62∨c=126:=by unfold sign2 at hc;simpa using hc
     clear hcc hc;obtain ⟨pa,hpa⟩:∃ x,x=parseT ((l.drop 0).take (k - 0)):=⟨_,rfl⟩;have ca:=fun w=>c_ParseTermX l 0 k w;rw[←hpa] at ca;replace ca:=ax ca;obtain ⟨pb,hpb⟩:∃ x,x=parseT ((l.drop (k+1)).take (l.length - (k+1))):=⟨_,rfl⟩;have cb:=fun w=>c_ParseTermX l (k+1) l.length w;rw[←hpb] at cb;replace cb:=ax cb
     have hE:aJ (parseX l=pairX (if c=126 then 2 else 1) pa pb):=ax (by
      rw[HP.o,hpa,hpb,List.drop_zero,Nat.sub_zero,List.take_of_length_le (l:=l.drop (k+1)) (by simp)])
     clear hpa hpb HP;rcases h2 with h2|h2
     ·replace hE:aJ (parseX l=pairX 1 pa pb):=ax (by rw[hE.o,h2];rfl);subst h2
      cases pa with
      | none=>
       have hR:aJ (parseX l=none):=ax hE.o;clear hE;(go_wp2_with fail);refine (ca.o _).mono ?_;rintro e w2 ⟨rfl,rfl⟩;(go_wp2_with fail);refine (cb.o _).mono ?_;rintro e w2 ⟨rfl,rfl⟩;obtain ⟨nb,hnb⟩:∃ nb:Nat,nb=pb.getD 0:=⟨_,rfl⟩;rw[←hnb];clear hnb;(go_wp2_with fail);refine bodyPost_ret (v:=.tuple #[.agg #[.int .i64 1,.int .i64 0,.int .i64 nb],.bool false]) (by simp[results,Tryz.results191,go_sem]) rfl ⟨⟨1,0,nb⟩,by rw[hR.o];rfl,(by rw[hR.o];intro z h;cases h),bel⟩
      | some a=>
       have hS:aJ ((parseX l).isSome=pb.isSome):=ax (by rw[hE.o,pairX_isSome]);obtain ⟨nb,hnb⟩:∃ nb:Nat,nb=pb.getD 0:=⟨_,rfl⟩
       have hZ:aJ (∀ z,parseX l=some z→(⟨1,(a:Int),(nb:Int)⟩:Atm)=z):=ax (by
        intro z hz;rw[hE.o,hnb] at *
        cases pb with
        | none=>cases hz
        | some b=>injection hz)
       clear hE;(go_wp2_with fail);refine (ca.o _).mono ?_;rintro e w2 ⟨rfl,rfl⟩;(go_wp2_with fail);refine (cb.o _).mono ?_;rintro e w2 ⟨rfl,rfl⟩;obtain ⟨sb,hsb⟩:∃ sb:Bool,sb=pb.isSome:=⟨_,rfl⟩;rw[←hsb] at hS ⊢;rw[←hnb];clear hnb hsb;(go_wp2_with fail);refine bodyPost_ret (v:=.tuple #[.agg #[.int .i64 1,.int .i64 a,.int .i64 nb],.bool sb]) (by simp[results,Tryz.results191,go_sem]) rfl ⟨⟨1,a,nb⟩,by rw[hS.o],hZ.o,bel⟩
     ·replace hE:aJ (parseX l=pairX 2 pa pb):=ax (by rw[hE.o,h2];rfl);subst h2
      cases pa with
      | none=>
       have hR:aJ (parseX l=none):=ax hE.o;clear hE;(go_wp2_with fail);refine (ca.o _).mono ?_;rintro e w2 ⟨rfl,rfl⟩;(go_wp2_with fail);refine (cb.o _).mono ?_;rintro e w2 ⟨rfl,rfl⟩;obtain ⟨nb,hnb⟩:∃ nb:Nat,nb=pb.getD 0:=⟨_,rfl⟩;rw[←hnb];clear hnb;(go_wp2_with fail);refine bodyPost_ret (v:=.tuple #[.agg #[.int .i64 2,.int .i64 0,.int .i64 nb],.bool false]) (by simp[results,Tryz.results191,go_sem]) rfl ⟨⟨2,0,nb⟩,by rw[hR.o];rfl,(by rw[hR.o];intro z h;cases h),bel⟩
      | some a=>
       have hS:aJ ((parseX l).isSome=pb.isSome):=ax (by rw[hE.o,pairX_isSome]);obtain ⟨nb,hnb⟩:∃ nb:Nat,nb=pb.getD 0:=⟨_,rfl⟩
       have hZ:aJ (∀ z,parseX l=some z→(⟨2,(a:Int),(nb:Int)⟩:Atm)=z):=ax (by
        intro z hz;rw[hE.o,hnb] at *
        cases pb with
        | none=>cases hz
        | some b=>injection hz)
       clear hE;(go_wp2_with fail);refine (ca.o _).mono ?_;rintro e w2 ⟨rfl,rfl⟩;(go_wp2_with fail);refine (cb.o _).mono ?_;rintro e w2 ⟨rfl,rfl⟩;obtain ⟨sb,hsb⟩:∃ sb:Bool,sb=pb.isSome:=⟨_,rfl⟩;rw[←hsb] at hS ⊢;rw[←hnb];clear hnb hsb;(go_wp2_with fail);refine bodyPost_ret (v:=.tuple #[.agg #[.int .i64 2,.int .i64 a,.int .i64 nb],.bool sb]) (by simp[results,Tryz.results191,go_sem]) rfl ⟨⟨2,a,nb⟩,by rw[hS.o],hZ.o,bel⟩
   ·obtain rfl:k=l.length:=by omega
    have HP:=ax (parseX_no fun j hj=>HN.o j hj hj);(go_wp2_with fail);refine bodyPost_ret (v:=.tuple #[.agg #[.int .i64 0,.int .i64 0,.int .i64 0],.bool false]) (by simp[results,Tryz.results191,go_sem]) rfl ⟨⟨0,0,0⟩,by rw[HP.o];rfl,(by rw[HP.o];intro z h;cases h),bel⟩
 ·have hli:¬(l.length:Int)≤7:=by omega
  have hl0:(0:Int)<(l.length:Int):=by omega
  have HP:=ax (show parseX l=none by unfold parseX;rw[if_pos (by omega)]);clear hl;(go_enter Tryz.func191,Tryz.ntmps191);(go_wp2_with fail)
  go_loopw [4] (fun i wr=>i=.int .i64 0∧wr=w.alloc (.cells #[.int .i64 0,.int .i64 0,.int .i64 0] tA)) (fun _ _=>0)
  case atStart=>exact ⟨rfl,rfl⟩
  case round=>
   obtain ⟨rfl,rfl⟩:=hrel;(go_wp2_with fail);refine bodyPost_ret (v:=.tuple #[.agg #[.int .i64 0,.int .i64 0,.int .i64 0],.bool false]) (by simp[results,Tryz.results191,go_sem]) rfl ⟨⟨0,0,0⟩,by rw[HP.o];rfl,(by rw[HP.o];intro z h;cases h),bel⟩
end
end Go.Proofs.YtjaohekkmlkinaaGreat
