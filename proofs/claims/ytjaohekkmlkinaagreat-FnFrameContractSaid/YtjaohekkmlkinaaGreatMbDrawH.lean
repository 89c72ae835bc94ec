/- What the reader draws: an assertion that another one often entails. -/
import Derived.Test.YtjaohekkmlkinaaGreatMbDrawG
set_option linter.unusedSimpArgs false
set_option linter.unusedVariables false
set_option maxRecDepth 100000
set_option maxHeartbeats 25600000
namespace Go.Proofs.YtjaohekkmlkinaaGreat
section
open Go Go.RowKit Go.Proofs
attribute [local go_sem ↓] Go.wp_at_zero Go.wp_at_succ
theorem encA_setK {fs:List Atm} {k:Nat} (hk:k<fs.length) (v:Int):encA (fs.set k ⟨v,fs[k].a,fs[k].b⟩)=(encA fs).set (k*3) (.int .i64 v):=by
 obtain ⟨t0,t1,t2⟩:=flat3 (fun f:Atm=>.int .i64 f.kind) (fun f=>.int .i64 f.a) (fun f=>.int .i64 f.b) fs k hk;rw[encA,flat3_set _ _ _ _ _ _ hk];have e1:(((fs.flatMap fun x:Atm=>[Value.int .i64 x.kind,.int .i64 x.a,.int .i64 x.b]).set (k*3) (.int .i64 v)))[k*3+1]? = some (.int .i64 fs[k].a):=by rw[List.getElem?_set_ne (by omega)];exact t1
 have e2:(((fs.flatMap fun x:Atm=>[Value.int .i64 x.kind,.int .i64 x.a,.int .i64 x.b]).set (k*3) (.int .i64 v)))[k*3+2]? = some (.int .i64 fs[k].b):=by rw[List.getElem?_set_ne (by omega)];exact t2
 rw[set_same e1,set_same e2]
theorem Rd.tailF {w:World} {lo hi gf:Nat} {f:Fct} {ft:List Fct} (h:FactsV w lo hi (some ⟨gf,0,none⟩) (f :: ft)):FactsV w lo hi (some ⟨gf,3,none⟩) ft:=by
 refine ⟨⟨by have:=h.raw.1;simp[encF] at this ⊢;omega,fun hn=>?_⟩,by have:=h.lim;unfold Lim at this ⊢;simp at this;omega⟩;obtain ⟨b,o,e,h1,h2,hc⟩:=h.raw.2 (by simp);simp only[Option.some.injEq,Addr.mk.injEq,and_true] at e;obtain ⟨rfl,rfl⟩:=e;refine ⟨gf,3,rfl,h1,h2,fun j u hu=>?_⟩;have:=hc (3+j) u (by rw[show encF (f :: ft)=[.bool f.eq,.int .i64 f.a,.int .i64 f.b]++encF ft from rfl,List.getElem?_append_right (by simp)];simpa using hu);simpa using this
theorem Rd.tailA {w:World} {lo hi gf:Nat} {f:Atm} {ft:List Atm} (h:AtomsV w lo hi (some ⟨gf,0,none⟩) (f :: ft)):AtomsV w lo hi (some ⟨gf,3,none⟩) ft:=by
 refine ⟨⟨by have:=h.raw.1;simp[encA] at this ⊢;omega,fun hn=>?_⟩,by have:=h.lim;unfold Lim at this ⊢;simp at this;omega⟩;obtain ⟨b,o,e,h1,h2,hc⟩:=h.raw.2 (by simp);simp only[Option.some.injEq,Addr.mk.injEq,and_true] at e;obtain ⟨rfl,rfl⟩:=e;refine ⟨gf,3,rfl,h1,h2,fun j u hu=>?_⟩;have:=hc (3+j) u (by rw[show encA (f :: ft)=[.int .i64 f.kind,.int .i64 f.a,.int .i64 f.b]++encA ft from rfl,List.getElem?_append_right (by simp)];simpa using hu);simpa using this
def FRel (F0:Option Addr) (fs0:List Fct) (FA:Option Addr) (fs:List Fct):Prop:=(FA=F0∧fs=fs0)∨(∃ gf f,F0=some ⟨gf,0,none⟩∧FA=some ⟨gf,3,none⟩∧fs0=f :: fs)∨fs=[]
theorem FRel.rj {w:World} {base:Nat} {F0 FA:Option Addr} {fs0 fs:List Fct} {e0:Nat} (h:FRel F0 fs0 FA fs) (ho:FactsO w base (.slice F0 fs0.length e0) fs0):FactsV w base w.heap.size FA fs:=by
 have hr:=(ho.readsI).2;rcases h with ⟨rfl,rfl⟩|⟨gf,f,rfl,rfl,rfl⟩|rfl
 ·exact hr
 ·exact Rd.tailF hr
 ·exact Rd.nil _ _ _ _ _
theorem AtomsO.reads2 {w:World} {base n c:Nat} {A:Option Addr} {fs:List Atm} (h:AtomsO w base (.slice A n c) fs):AtomsV w base w.heap.size A fs:=(h.readsI).2
theorem AtomsO.capL {w:World} {b n c:Nat} {A:Option Addr} {fs:List Atm} (h:AtomsO w b (.slice A n c) fs):n≤c:=by
 rcases h.1.2 with ⟨e,-⟩|⟨k,cap,cur,e,-,-,hn,-⟩
 ·injection e with e1 e2 e3;omega
 ·injection e with e1 e2 e3;omega
theorem FactsO.capL {w:World} {b n c:Nat} {A:Option Addr} {fs:List Fct} (h:FactsO w b (.slice A n c) fs):n≤c:=by
 rcases h.1.2 with ⟨e,-⟩|⟨k,cap,cur,e,-,-,hn,-⟩
 ·injection e with e1 e2 e3;omega
 ·injection e with e1 e2 e3;omega
theorem c_l6Weak {lo hi:Nat} (g p:Nat) (v:Value) (a:Asn) (w:World) (h:Rdr w g p) (hp:p≤999000) (ha:AsnV w lo hi v a) (hl1:a.facts.length≤20) (hl2:a.atoms.length≤20) :
  Calls Tryz.prog 101 #[.pointer (some ⟨g,0,none⟩),v] w fun e w'=>∃ r x q,e=.returned r∧AsnV w' w.heap.size w'.heap.size r x∧x.facts.length≤20∧x.atoms.length≤20∧Rdr w' g q∧q≤p+10∧Fr g w w':=by
 have H:=ax h;have hlt:=h.lt;have hV:=ax ha;obtain ⟨A1,c1,A2,c2,rfl,-,-⟩:=ha;clear h;(go_enter Tryz.func101,Tryz.ntmps101);obtain ⟨k0,k1⟩:=blk2 w tAs tAs #[.slice A1 a.facts.length c1,.slice A2 a.atoms.length c2] #[.slice none 0 0,.slice none 0 0];(go_wp2_with fail);refine (c_l3Copy _ a _ (hV.o.bz bel)).mono ?_;rintro e w1 ⟨r1,rfl,o1,hB1⟩;have hB:=bgo (w:=w) bel hB1;have hz1:w.heap.size+2≤w1.heap.size:=by have:=hB1.size;simp at this;omega
 replace o1:=o1.bq (base':=w.heap.size) (by simp;omega);replace k1:=k1.nz hB1;obtain ⟨fv,av,rfl,of,oa⟩:=o1;obtain ⟨F,e1,rfl,-⟩:=of.rj;obtain ⟨G,d1,rfl,-⟩:=oa.rj;obtain ⟨X,hX⟩:∃ X,X=w1.heap.size:=⟨_,rfl⟩;have kx:Blk (w1.alloc (.cells #[.slice F a.facts.length e1,.slice G a.atoms.length d1] tAs)) X tAs #[.slice F a.facts.length e1,.slice G a.atoms.length d1]:=by rw[hX];exact Blk.new _ _ _
 have hBx:Below w1.heap.size w1 (w1.alloc (.cells #[.slice F a.facts.length e1,.slice G a.atoms.length d1] tAs)):=bbox (Below.refl _ _) _;have HO1:=ax (of.bz hBx);have HO2:=ax (oa.bz hBx);have HF1:aJ (Fr g w (w1.alloc (.cells #[.slice F a.facts.length e1,.slice G a.atoms.length d1] tAs))):=(Fr.ofBelow hB).go hBx;have HR1:aJ (Rdr (w1.alloc (.cells #[.slice F a.facts.length e1,.slice G a.atoms.length d1] tAs)) g p):=(H.o.bz hB).bz hBx;replace k1:=k1.alloc (.cells #[.slice F a.facts.length e1,.slice G a.atoms.length d1] tAs);have hXw:w.heap.size+2≤X:=by omega
 clear hB1 hB of oa hBx H k0;(go_wp2_with fail);rw[←hX];generalize (w1.alloc (.cells #[.slice F a.facts.length e1,.slice G a.atoms.length d1] tAs))=W1 at k1 kx HO1 HO2 HF1 HR1 ⊢;clear hX hz1;refine (c_pick g p 3 _ HR1.o (by omega)).mono ?_;rintro e w2 ⟨m,rfl,hm,hR,hF⟩;have k12:=k1.fr hF (by omega);have kx2:=kx.fr hF (by omega);have HF2:=ax (HF1.o.trans hF);have HR2:=ax hR;have P1:=ax (HO1.o.fr hF hlt);have P2:=ax (HO2.o.fr hF hlt);have hm2:m≤2:=by omega
 clear hR hF hm HO1 HO2 HF1 HR1 k1 kx;(go_wp2_with fail)
 go_loopw [6] (fun i wr=>∃ (k:Nat) (fs:List Fct) (xs:List Atm) (F:Option Addr) (e:Nat) (G:Option Addr) (d:Nat),i=.int .i64 k∧k≤2∧fs.length≤20∧xs.length≤20∧aJ (FactsO wr w.heap.size (.slice F fs.length e) fs)∧aJ (AtomsO wr w.heap.size (.slice G xs.length d) xs)∧Blk wr (w.heap.size+1) tAs #[.slice none 0 0,.slice none 0 0]∧Blk wr X tAs #[.slice F fs.length e,.slice G xs.length d]∧aJ (Rdr wr g (p+1))∧aJ (Fr g w wr)) (fun i _=>(intOf i).toNat)
 case atStart=>exact ⟨m,a.facts,a.atoms,F,e1,G,d1,rfl,hm2,hl1,hl2,P1,P2,k12,kx2,HR2.o,HF2.o⟩
 case round=>
  clear k12 kx2 P1 P2 HR2 HF2 hm2;obtain ⟨k,fs,xs,F,e1,G,d1,rfl,hk2,hfl,hxl,HO1,HO2,k1,kx,HR,HF⟩:=hrel;(replace qk1:=k1.cell;replace rk1:=k1.frozen;replace lk1:=k1.lt;replace qkx:=kx.cell;replace rkx:=kx.frozen;replace lkx:=kx.lt);have hsz:=HF.o.size;by_cases hk:0<k
  ·have hki:(0:Int)<(k:Int):=by omega
   have HAV:aJ (AsnV wr w.heap.size wr.heap.size (.agg #[.slice F fs.length e1,.slice G xs.length d1]) ⟨fs,xs⟩):=AsnO.rj ⟨_,_,rfl,HO1.o,HO2.o⟩;(go_wp2_with fail);refine (c_FoldCells _ ⟨fs,xs⟩ _ HAV.o).mono ?_;rintro e w3 ⟨r3,y,ok,rfl,o3,hy1,hy2,hB3⟩;have k13:=k1.nz hB3;have kx3:=kx.nz hB3;have HF3:=ax (HF.o.go hB3);have HR3:=ax (HR.o.bz hB3);have Q1:=ax (HO1.o.bz hB3);have Q2:=ax (HO2.o.bz hB3);replace o3:=o3.bq (base':=w.heap.size) hsz;obtain ⟨fv,av,rfl,of,oa⟩:=o3;obtain ⟨F3,e3,rfl,-⟩:=of.rj;obtain ⟨G3,d3,rfl,-⟩:=oa.rj;have lkx3:=kx3.lt;have lk13:=k13.lt;have S1:=ax of;have S2:=ax oa;have hwx:w.heap.size≤X:=by omega
   clear hB3 of oa HO1 HO2 HF HR k1 kx HAV qk1 rk1 lk1 qkx rkx lkx;have hne:w3.heap.size≠X:=by omega
   have hsz3:=HF3.o.size;(replace qk13:=k13.cell;replace rk13:=k13.frozen;replace lk13:=k13.lt;replace qkx3:=kx3.cell;replace rkx3:=kx3.frozen;replace lkx3:=kx3.lt);cases ok
   ·go_wp2_with fail
    go_round
    case rel=>exact ⟨k - 1,fs,xs,F,e1,G,d1,by go_num,by omega,hfl,hxl,Q1.o.bz (bbox (Below.refl _ _) _),Q2.o.bz (bbox (Below.refl _ _) _),k13.alloc _,kx3.alloc _,HR3.o.bz (bbox (Below.refl _ _) _),HF3.o.go (bbox (Below.refl _ _) _)⟩
    case measure=>simp[intOf];omega
   ·go_wp2_with fail
    go_round
    case rel=>exact ⟨k - 1,y.facts,y.atoms,F3,e3,G3,d3,by go_num,by omega,hy1,hy2,((S1.o.setT kx3 (by decide) 0 _).setT (kx3.set_ 0 _) (by decide) 1 _).bz (bbox (Below.refl _ _) _),((S2.o.setT kx3 (by decide) 0 _).setT (kx3.set_ 0 _) (by decide) 1 _).bz (bbox (Below.refl _ _) _),((k13.far (p:=⟨X,0,none⟩) (by simp only;omega) _).far (p:=⟨X,1,none⟩) (by simp only;omega) _).alloc _,Blk.alloc (by simpa using (kx3.set_ 0 (.slice F3 y.facts.length e3)).set_ 1 (.slice G3 y.atoms.length d3)) _,((HR3.o.set_ (q:=⟨X,0,none⟩) (by simp only;omega) _).set_ (q:=⟨X,1,none⟩) (by simp only;omega) _).bz (bbox (Below.refl _ _) _),((HF3.o.set_ (p:=⟨X,0,none⟩) (Or.inr hwx) _).set_ (p:=⟨X,1,none⟩) (Or.inr hwx) _).go (bbox (Below.refl _ _) _)⟩
    case measure=>simp[intOf];omega
  ·obtain rfl:k=0:=by omega
   clear hk hk2;obtain ⟨q,hq0⟩:∃ q,q=p+1:=⟨_,rfl⟩;rw[←hq0] at HR;have hq:q≤p+1:=by omega
   have HFO:=HO1;clear hq0 HO1 hsz;by_cases hf:fs.length=0
   ·have hf0:¬(0:Int)<(fs.length:Int):=by omega
    clear hf;have HREL:aJ (FRel F fs F fs):=Or.inl ⟨rfl,rfl⟩;by_cases hx0:xs.length=0
    ·have hx0i:¬(0:Int)<(xs.length:Int):=by omega
     have hx1i:¬(1:Int)<(xs.length:Int):=by omega
     clear hx0;have hne:X≠w.heap.size+1:=by omega
     go_wp2_with fail
     first
     | (refine bodyPost_ret (v:=.agg #[.slice F fs.length e1,.slice G xs.length d1]) (by simp[results,Tryz.results101,go_sem,qk1]) rfl ⟨_,rfl,⟨fs,xs⟩,⟨F,e1,G,d1,rfl,?_,?_⟩,hfl,hxl,q,?_,by omega,?_⟩)
     | (refine bodyPost_ret (v:=.agg #[.slice F fs.length e1,.slice G xs.length d1]) (by simp[results,Tryz.results101,go_sem,qk1]) rfl ⟨_,⟨fs,xs⟩,q,rfl,⟨F,e1,G,d1,rfl,?_,?_⟩,hfl,hxl,?_,by omega,?_⟩)
     ·exact HREL.o.rj ((HFO.o.setT k1 (by decide) 0 _).setT (k1.set_ 0 _) (by decide) 1 _)
     ·exact ((((HO2.o.setT k1 (by decide) 0 _).setT (k1.set_ 0 _) (by decide) 1 _)).readsI).2
     ·exact (HR.o.set_ (q:=⟨w.heap.size+1,0,none⟩) (by simp only;omega) _).set_ (q:=⟨w.heap.size+1,1,none⟩) (by simp only;omega) _
     ·exact (HF.o.set_ (p:=⟨w.heap.size+1,0,none⟩) (Or.inr (by simp only;omega)) _).set_ (p:=⟨w.heap.size+1,1,none⟩) (Or.inr (by simp only;omega)) _
    have hx0i:(0:Int)<(xs.length:Int):=by omega
    (go_wp2_with fail);refine (c_pick g q 3 _ HR.o (by omega)).mono ?_;rintro e w6 ⟨m6,rfl,hm6,hR,hF⟩;replace k1:=k1.fr hF (by omega);replace kx:=kx.fr hF (by omega);replace HF:=ax (HF.o.trans hF);replace HFO:=ax (HFO.o.fr hF hlt);replace HO2:=ax (HO2.o.fr hF hlt);replace HR:=ax hR;replace hq:q+1≤p+2:=by omega
    generalize q+1=q at HR hq;clear hR hF;(replace qk1:=k1.cell;replace rk1:=k1.frozen;replace lk1:=k1.lt;replace qkx:=kx.cell;replace rkx:=kx.frozen;replace lkx:=kx.lt);by_cases hm60:(m6:Int)=0
    ·have hm6b:((m6:Int) == 0)=true:=by simpa using hm60
     clear hm60 hm6;(go_wp2_with fail);refine (c_pick g q (xs.length:Int) _ HR.o (by omega)).mono ?_;rintro e w7 ⟨m7,rfl,hm7,hR,hF⟩;replace k1:=k1.fr hF (by omega);replace kx:=kx.fr hF (by omega);replace HF:=ax (HF.o.trans hF);replace HFO:=ax (HFO.o.fr hF hlt);replace HO2:=ax (HO2.o.fr hF hlt);replace HR:=ax hR;replace hq:q+1≤p+3:=by omega
     generalize q+1=q at HR hq;clear hR hF;(replace qk1:=k1.cell;replace rk1:=k1.frozen;replace lk1:=k1.lt;replace qkx:=kx.cell;replace rkx:=kx.frozen;replace lkx:=kx.lt);have hm7l:m7<xs.length:=by omega
     obtain ⟨ga,cur,-,rfl,hga,kg,hsz3,hc0,hc1,hc2,hset⟩:=HO2.o.open_ (k:=m7) hm7l;have qg:=(kg.cell (m7 * 3)).trans hc0;have rg:=kg.frozen;have lg:=kg.lt;obtain ⟨ok,hok⟩:∃ ok,ok=(xs[m7]'hm7l).kind:=⟨_,rfl⟩;rw[←hok] at qg;have hm7i:(m7:Int)<(xs.length:Int):=by omega
     have hxg:X≠ga:=kx.ne_ kg (by decide);have h1g:w.heap.size+1≠ga:=k1.ne_ kg (by decide);clear hc0 hc1 hc2 hok hsz3 hm7;obtain ⟨ys,hys⟩:∃ ys,ys=xs.set m7 ⟨2,(xs[m7]'hm7l).a,(xs[m7]'hm7l).b⟩:=⟨_,rfl⟩;have hyl:ys.length=xs.length:=by rw[hys];simp
     have E0:=hset (m7 * 3) (.int .i64 2) ys (by rw[hys];exact encA_setK hm7l 2) hyl;rw[←hyl] at E0 kx hm7i hxl hx0i;have hga0:=kg;clear hset HO2 hys;have HO2:=ax E0;clear E0;replace HFO:=ax (HFO.o.setT kg (by decide) (m7 * 3) (.int .i64 2));replace HR:=ax (HR.o.set_ (q:=⟨ga,m7 * 3,none⟩) (by simp only;omega) (.int .i64 2));replace HF:=ax (HF.o.set_ (p:=⟨ga,m7 * 3,none⟩) (Or.inr hga) (.int .i64 2));(replace qk1:=k1.cell;replace rk1:=k1.frozen;replace lk1:=k1.lt;replace qkx:=kx.cell;replace rkx:=kx.frozen;replace lkx:=kx.lt);have qk17:=qk1;have qkx7:=qkx;have lk17:=lk1;have lkx7:=lkx;have rk17:=rk1;have rkx7:=rkx;replace k1:=k1.far (p:=⟨ga,m7 * 3,none⟩) h1g (.int .i64 2);replace kx:=kx.far (p:=⟨ga,m7 * 3,none⟩) hxg (.int .i64 2);have hgx:ga≠X:=fun e=>hxg e.symm;have hg1:ga≠w.heap.size+1:=fun e=>h1g e.symm;clear hyl hx0 hm7l;by_cases hx1:ys.length≤1
     ·have hx1i:¬(1:Int)<(ys.length:Int):=by omega
      have hne:X≠w.heap.size+1:=by omega
      go_wp2_with fail
      first
      | (refine bodyPost_ret (v:=.agg #[.slice F fs.length e1,.slice (some ⟨ga,0,none⟩) ys.length d1]) (by simp[results,Tryz.results101,go_sem,qk17,lk17,h1g,hg1]) rfl ⟨_,rfl,⟨fs,ys⟩,⟨F,e1,(some ⟨ga,0,none⟩),d1,rfl,?_,?_⟩,hfl,hxl,q,?_,by omega,?_⟩)
      | (refine bodyPost_ret (v:=.agg #[.slice F fs.length e1,.slice (some ⟨ga,0,none⟩) ys.length d1]) (by simp[results,Tryz.results101,go_sem,qk17,lk17,h1g,hg1]) rfl ⟨_,⟨fs,ys⟩,q,rfl,⟨F,e1,(some ⟨ga,0,none⟩),d1,rfl,?_,?_⟩,hfl,hxl,?_,by omega,?_⟩)
      ·exact HREL.o.rj ((HFO.o.setT k1 (by decide) 0 _).setT (k1.set_ 0 _) (by decide) 1 _)
      ·exact ((((HO2.o.setT k1 (by decide) 0 _).setT (k1.set_ 0 _) (by decide) 1 _)).readsI).2
      ·exact (HR.o.set_ (q:=⟨w.heap.size+1,0,none⟩) (by simp only;omega) _).set_ (q:=⟨w.heap.size+1,1,none⟩) (by simp only;omega) _
      ·exact (HF.o.set_ (p:=⟨w.heap.size+1,0,none⟩) (Or.inr (by simp only;omega)) _).set_ (p:=⟨w.heap.size+1,1,none⟩) (Or.inr (by simp only;omega)) _
     have hx1i:(1:Int)<(ys.length:Int):=by omega
     (go_wp2_with fail);refine (c_pick g q 3 _ HR.o (by omega)).mono ?_;rintro e w8 ⟨m8,rfl,hm8,hR,hF⟩;replace k1:=k1.fr hF (by omega);replace kx:=kx.fr hF (by omega);replace HF:=ax (HF.o.trans hF);replace HFO:=ax (HFO.o.fr hF hlt);replace HO2:=ax (HO2.o.fr hF hlt);replace HR:=ax hR;replace hq:q+1≤p+4:=by omega
     generalize q+1=q at HR hq;clear hR hF;(replace qk1:=k1.cell;replace rk1:=k1.frozen;replace lk1:=k1.lt;replace qkx:=kx.cell;replace rkx:=kx.frozen;replace lkx:=kx.lt);by_cases hm80:(m8:Int)=0
     ·have hm8b:((m8:Int) == 0)=true:=by simpa using hm80
      clear hm80 hm8
      obtain ⟨x0,tl,rfl⟩:∃ x0 tl,ys=x0 :: tl:=by
       cases ys with
       | nil=>simp at hx1i
       | cons x0 tl=>exact ⟨x0,tl,rfl⟩
      have hcap:(x0 :: tl).length≤d1:=AtomsO.capL HO2.o;have hd1:1<d1:=by simp at hcap hx1i;omega
      have hd2:¬d1 - 1=0:=by omega
      have hd3:d1≠1:=by omega
      have hti:(0:Int)<(tl.length:Int)+1:=by omega
      have hti1:(1:Int)≤(tl.length:Int)+1:=by omega
      have htl:tl.length≤19:=by simp at hxl;omega
      have HXV:=ax (HO2.o.readsI).2;have hc3:=HXV.o.cl (k:=0) (by simp);obtain ⟨z0,z1,z2⟩:=hc3;simp only[Nat.zero_mul,Nat.add_zero,Nat.zero_add,List.getElem_cons_zero] at z0 z1 z2;clear hcap;(go_wp2_with fail);refine wp_region_noPanic ?_;refine wp_region_last' (S:=(fun w'=>(∀ i,w'.cell? ⟨X,i,none⟩=#[.slice F fs.length e1,.slice (some ⟨ga,0,none⟩) (x0 :: tl).length d1][i]?)∧w'.cell? ⟨ga,0,none⟩=some (.int .i64 x0.kind)∧w'.cell? ⟨ga,1,none⟩=some (.int .i64 x0.a)∧w'.cell? ⟨ga,2,none⟩=some (.int .i64 x0.b))) (by simp) (by kernel_rfl) (by kernel_rfl) (⟨Blk.cell blks,z0,z1,z2⟩) (fun aH=>?_);simp only[List.dropLast,List.getLast,nopOf,List.cons_append,List.nil_append,List.length_cons,List.length_nil,Nat.zero_add,Nat.reduceAdd];refine tk2 1 rfl aH (h:=tk2 2 rfl aH (h:=tk2 3 rfl aH (h:=?_)));(try simp only[zz]);refine tk2 5 rfl aH (h:=tk2 6 rfl aH (h:=tk2 7 rfl aH (h:=?_)));(try simp only[zz]);refine tk2 8 rfl aH (h:=?_);(try simp only[zz])
      refine wpAnyH_par [0,4,9] #[true,true,true,true,true,true,true,true,true,true,false,false,false] 3 (by kernel_rfl) aH
       (fun a0 D a1 w'=>aJ (Below w8.heap.size w8 w')∧aJ (dn D 4=true→dn D 0=true)∧
        ∃ v66 v70 v75,a1=((a0.put (some 66) v66).put (some 70) v70).put (some 75) v75∧
         aJ (dn D 0=true→dn D 4=false→(∃ y,v66=.slice (some ⟨y,0,none⟩) 0 0)∧AtomsO w' w8.heap.size v66 [])∧
         aJ (dn D 4=true→(∃ A c,v70=.slice A tl.length c)∧AtomsO w' w8.heap.size v70 tl)∧
         aJ (dn D 9=true→∃ y,v75=.slice (some ⟨y,0,none⟩) 1 1∧Blk w' y tA #[.int .i64 x0.kind,.int .i64 x0.a,.int .i64 x0.b]∧(dn D 0=true→dn D 4=false→v66.ownBlock≠some y))) ?start ?steps ?fin
      case start=>exact ⟨(Below.refl _ w8).drew,fun h=>absurd h (by decide),undef,undef,undef,rfl,fun h=>absurd h (by decide),fun h=>absurd h (by decide),fun h=>absurd h (by decide)⟩
      case steps=>
       refine ParSteps.cons rfl (fun D a1 w' hu hd hI hS K' hK G' hG=>?_) (ParSteps.cons rfl (fun D a1 w' hu hd hI hS K' hK G' hG=>?_) (ParSteps.cons rfl (fun D a1 w' hu hd hI hS K' hK G' hG=>?_) ParSteps.nil))
       ·obtain ⟨HW,HC,v66,v70,v75,ha,h0,h4,h9⟩:=hI;rw[ha] at hG;clear ha a1;have u0:=dn_un hu;have u4:dn D 4=false:=by cases e:dn D 4;rfl;have:=HC.o e;rw[u0] at this;cases this
        have HU:=ax u4;clear u0 u4;refine hG ?_;clear hG hd;(try simp only[zz]);go_simp;have hB2:Below w8.heap.size w8 (w'.alloc (.cells #[] tA)):=HW.o.alloc HW.o.size _;have hBw:Below w'.heap.size w' (w'.alloc (.cells #[] tA)):=bbox (Below.refl _ _) _;have hcc:=(HXV.o.bz hB2).cl (k:=0) (by simp);simp only[Nat.zero_mul,Nat.add_zero,Nat.zero_add,List.getElem_cons_zero] at hcc;refine hK.out _ _ ⟨(kx.nz hB2).cell,hcc⟩ ⟨hB2,fun _=>dn_self hu,.slice (some ⟨w'.heap.size,0,none⟩) 0 0,v70,v75,rfl,fun _ _=>⟨⟨_,rfl⟩,(AtomsO.empty w').bq HW.o.size⟩,fun h=>?_,fun h=>?_⟩
        ·rw[dn_ne (by decide)] at h;rw[HU.o] at h;cases h
        ·rw[dn_ne (by decide)] at h;obtain ⟨y,e,hk,-⟩:=h9.o h;exact ⟨y,e,hk.alloc _,fun _ _ e2=>by have:=hk.lt;simp[Value.ownBlock] at e2;omega⟩
       ·obtain ⟨HW,HC,v66,v70,v75,ha,h0,h4,h9⟩:=hI;rw[ha] at hG;clear ha a1;have u4:=dn_un hu;have t0:dn D 0=true:=hd ⟨0,.data⟩ (by simp) (by decide);obtain ⟨⟨y,rfl⟩,o⟩:=h0.o t0 u4;have HO:=ax o;have HU:=ax (And.intro u4 t0);clear u4 t0 o h0 hd;refine hG ?_;clear hG;(try simp only[zz]);rw[if_pos (by simp[Region.wanted])];refine wp_appAL (base:=w8.heap.size) (xs:=[]) (ys:=tl) _ _ rfl rfl HO.o rfl (Rd.tailA (HXV.o.bz HW.o)) (by simp;omega) HW.o.size ?_;intro A' c' w2 o2 hg2 hB2;simp only[List.nil_append] at o2 ⊢;have hB3:Below w8.heap.size w8 w2:=HW.o.trans hB2;have hcc:=(HXV.o.bz hB3).cl (k:=0) (by simp);simp only[Nat.zero_mul,Nat.add_zero,Nat.zero_add,List.getElem_cons_zero] at hcc;refine hK.out _ _ ⟨(kx.nz hB3).cell,hcc⟩ ⟨hB3,fun _=>?_,.slice (some ⟨y,0,none⟩) 0 0,.slice A' tl.length c',v75,rfl,fun _ h=>?_,fun _=>⟨⟨A',c',rfl⟩,o2⟩,fun h=>?_⟩
        ·rw[dn_ne (by decide)];exact HU.o.2
        ·rw[dn_self hu] at h;cases h
        ·rw[dn_ne (by decide)] at h;obtain ⟨z,e,hk,hne⟩:=h9.o h;exact ⟨z,e,hk.grown hg2 (fun e2=>hne HU.o.2 HU.o.1 e2.symm),fun _ h2=>by rw[dn_self hu] at h2;cases h2⟩
       ·obtain ⟨HW,HC,v66,v70,v75,ha,h0,h4,h9⟩:=hI;rw[ha] at hG;clear ha a1;refine hG ?_;clear hG hd;(try simp only[zz]);go_simp;have hB2:Below w8.heap.size w8 (w'.alloc (.cells #[.int .i64 x0.kind,.int .i64 x0.a,.int .i64 x0.b] tA)):=HW.o.alloc HW.o.size _;have hBw:Below w'.heap.size w' (w'.alloc (.cells #[.int .i64 x0.kind,.int .i64 x0.a,.int .i64 x0.b] tA)):=bbox (Below.refl _ _) _;have hcc:=(HXV.o.bz hB2).cl (k:=0) (by simp);simp only[Nat.zero_mul,Nat.add_zero,Nat.zero_add,List.getElem_cons_zero] at hcc;refine hK.out _ _ ⟨(kx.nz hB2).cell,hcc⟩ ⟨hB2,fun h=>?_,v66,v70,.slice (some ⟨w'.heap.size,0,none⟩) 1 1,rfl,fun h h'=>?_,fun h=>?_,fun _=>⟨_,rfl,Blk.new _ _ _,fun h h' e=>?_⟩⟩
        ·rw[dn_ne (by decide)] at h ⊢;exact HC.o h
        ·rw[dn_ne (by decide)] at h h';exact ⟨(h0.o h h').1,(h0.o h h').2.bz hBw⟩
        ·rw[dn_ne (by decide)] at h;exact ⟨(h4.o h).1,(h4.o h).2.bz hBw⟩
        ·rw[dn_ne (by decide)] at h h';have:=((h0.o h h').2.1.lt _ e).2;omega
      case fin=>
       rintro a1 w9 aH ⟨HW,-,v66,v70,v75,rfl,-,h4,h9⟩;obtain ⟨⟨A9,c9,rfl⟩,o9⟩:=h4.o (by decide);obtain ⟨y9,rfl,ky9,-⟩:=h9.o (by decide);have HO9:=ax o9;clear o9 h4 h9;(try simp only[zz]);refine rdc 10 rfl fun K hK=>?_;skip;(refine stepAL (base:=w8.heap.size) (xs:=tl) (ys:=[x0]) rfl _ _ rfl rfl HO9.o rfl (AtomsV.one (f:=x0) ky9) (by simp;omega) HW.o.size ?_;intro A10 c10 w10 o10 hg10 hB10;have hB11:Below w8.heap.size w8 w10:=HW.o.trans hB10;have hcc:=(HXV.o.bz hB11).cl (k:=0) (by simp);simp only[Nat.zero_mul,Nat.add_zero,Nat.zero_add,List.getElem_cons_zero] at hcc);refine hK.out _ _ (⟨(kx.nz hB11).cell,hcc⟩) ?_;clear aH hK K;intro aH;(try simp only[zz]);rw[List.length_append,List.length_singleton] at o10;have HO10:=ax o10;have hsz8:=HF.o.size;have kx10:=kx.nz hB11;have k110:=k1.nz hB11;have HF10:=ax (HF.o.go hB11);have HR10:=ax (HR.o.bz hB11);have HFO10:=ax (HFO.o.bz hB11);clear o10 hg10 hB10 HW HO9 ky9 HO2 kx k1 HF HR HFO qk1 rk1 lk1 qkx rkx lkx z0 z1 z2;(replace qk110:=k110.cell;replace rk110:=k110.frozen;replace lk110:=k110.lt;replace qkx10:=kx10.z);refine tk2 11 rfl aH (h:=?_);(try simp only[zz]);refine rdc 12 rfl fun K hK=>?_;go_simp;refine hK.out _ _ (⟨kx10.cell,hcc⟩) (fun aH=>?_);clear hK K;refine wpAnyH_done (by kernel_rfl) ?_ _;unfold lastQ;go_simp;refine NoPanic.normal ?_;have hne:X≠w.heap.size+1:=by omega
       have kx11:=kx10.set_ 1 (.slice A10 (tl.length+1) c10);have k111:=k110.far (p:=⟨X,1,none⟩) (by simp only;omega) (.slice A10 (tl.length+1) c10);have HO11:=ax (HO10.o.setT kx10 (by decide) 1 (.slice A10 (tl.length+1) c10));have HFO11:=ax (HFO10.o.setT kx10 (by decide) 1 (.slice A10 (tl.length+1) c10));have HR11:=ax (HR10.o.set_ (q:=⟨X,1,none⟩) (by simp only;omega) (.slice A10 (tl.length+1) c10));have HF11:=ax (HF10.o.set_ (p:=⟨X,1,none⟩) (Or.inr (by simp only;omega)) (.slice A10 (tl.length+1) c10));clear hcc aH;(go_wp2_with fail)
       first
       | (refine bodyPost_ret (v:=.agg #[.slice F fs.length e1,.slice A10 (tl.length+1) c10]) (by simp[results,Tryz.results101,go_sem,qk110]) rfl ⟨_,rfl,⟨fs,tl++[x0]⟩,⟨F,e1,A10,c10,by simp,?_,?_⟩,hfl,by simp;omega,q,?_,by omega,?_⟩)
       | (refine bodyPost_ret (v:=.agg #[.slice F fs.length e1,.slice A10 (tl.length+1) c10]) (by simp[results,Tryz.results101,go_sem,qk110]) rfl ⟨_,⟨fs,tl++[x0]⟩,q,rfl,⟨F,e1,A10,c10,by simp,?_,?_⟩,hfl,by simp;omega,?_,by omega,?_⟩)
       ·exact HREL.o.rj ((HFO11.o.setT k111 (by decide) 0 _).setT (k111.set_ 0 _) (by decide) 1 _)
       ·exact (((((HO11.o.bq (base':=w.heap.size) (by omega)).setT k111 (by decide) 0 _).setT (k111.set_ 0 _) (by decide) 1 _)).reads2)
       ·exact (HR11.o.set_ (q:=⟨w.heap.size+1,0,none⟩) (by simp only;omega) _).set_ (q:=⟨w.heap.size+1,1,none⟩) (by simp only;omega) _
       ·exact (HF11.o.set_ (p:=⟨w.heap.size+1,0,none⟩) (Or.inr (by simp only;omega)) _).set_ (p:=⟨w.heap.size+1,1,none⟩) (Or.inr (by simp only;omega)) _
     have hm8b:((m8:Int) == 0)=false:=by simpa using hm80
     clear hm80 hm8;have hne:X≠w.heap.size+1:=by omega
     go_wp2_with fail
     first
     | (refine bodyPost_ret (v:=.agg #[.slice F fs.length e1,.slice (some ⟨ga,0,none⟩) ys.length d1]) (by simp[results,Tryz.results101,go_sem,qk1]) rfl ⟨_,rfl,⟨fs,ys⟩,⟨F,e1,(some ⟨ga,0,none⟩),d1,rfl,?_,?_⟩,hfl,hxl,q,?_,by omega,?_⟩)
     | (refine bodyPost_ret (v:=.agg #[.slice F fs.length e1,.slice (some ⟨ga,0,none⟩) ys.length d1]) (by simp[results,Tryz.results101,go_sem,qk1]) rfl ⟨_,⟨fs,ys⟩,q,rfl,⟨F,e1,(some ⟨ga,0,none⟩),d1,rfl,?_,?_⟩,hfl,hxl,?_,by omega,?_⟩)
     ·exact HREL.o.rj ((HFO.o.setT k1 (by decide) 0 _).setT (k1.set_ 0 _) (by decide) 1 _)
     ·exact ((((HO2.o.setT k1 (by decide) 0 _).setT (k1.set_ 0 _) (by decide) 1 _)).readsI).2
     ·exact (HR.o.set_ (q:=⟨w.heap.size+1,0,none⟩) (by simp only;omega) _).set_ (q:=⟨w.heap.size+1,1,none⟩) (by simp only;omega) _
     ·exact (HF.o.set_ (p:=⟨w.heap.size+1,0,none⟩) (Or.inr (by simp only;omega)) _).set_ (p:=⟨w.heap.size+1,1,none⟩) (Or.inr (by simp only;omega)) _
    have hm6b:((m6:Int) == 0)=false:=by simpa using hm60
    clear hm60 hm6;by_cases hx1:xs.length≤1
    ·have hx1i:¬(1:Int)<(xs.length:Int):=by omega
     have hne:X≠w.heap.size+1:=by omega
     go_wp2_with fail
     first
     | (refine bodyPost_ret (v:=.agg #[.slice F fs.length e1,.slice G xs.length d1]) (by simp[results,Tryz.results101,go_sem,qk1]) rfl ⟨_,rfl,⟨fs,xs⟩,⟨F,e1,G,d1,rfl,?_,?_⟩,hfl,hxl,q,?_,by omega,?_⟩)
     | (refine bodyPost_ret (v:=.agg #[.slice F fs.length e1,.slice G xs.length d1]) (by simp[results,Tryz.results101,go_sem,qk1]) rfl ⟨_,⟨fs,xs⟩,q,rfl,⟨F,e1,G,d1,rfl,?_,?_⟩,hfl,hxl,?_,by omega,?_⟩)
     ·exact HREL.o.rj ((HFO.o.setT k1 (by decide) 0 _).setT (k1.set_ 0 _) (by decide) 1 _)
     ·exact ((((HO2.o.setT k1 (by decide) 0 _).setT (k1.set_ 0 _) (by decide) 1 _)).readsI).2
     ·exact (HR.o.set_ (q:=⟨w.heap.size+1,0,none⟩) (by simp only;omega) _).set_ (q:=⟨w.heap.size+1,1,none⟩) (by simp only;omega) _
     ·exact (HF.o.set_ (p:=⟨w.heap.size+1,0,none⟩) (Or.inr (by simp only;omega)) _).set_ (p:=⟨w.heap.size+1,1,none⟩) (Or.inr (by simp only;omega)) _
    have hx1i:(1:Int)<(xs.length:Int):=by omega
    (go_wp2_with fail);refine (c_pick g q 3 _ HR.o (by omega)).mono ?_;rintro e w8 ⟨m8,rfl,hm8,hR,hF⟩;replace k1:=k1.fr hF (by omega);replace kx:=kx.fr hF (by omega);replace HF:=ax (HF.o.trans hF);replace HFO:=ax (HFO.o.fr hF hlt);replace HO2:=ax (HO2.o.fr hF hlt);replace HR:=ax hR;replace hq:q+1≤p+3:=by omega
    generalize q+1=q at HR hq;clear hR hF;(replace qk1:=k1.cell;replace rk1:=k1.frozen;replace lk1:=k1.lt;replace qkx:=kx.cell;replace rkx:=kx.frozen;replace lkx:=kx.lt);by_cases hm80:(m8:Int)=0
    ·have hm8b:((m8:Int) == 0)=true:=by simpa using hm80
     clear hm80 hm8
     obtain ⟨x0,tl,rfl⟩:∃ x0 tl,xs=x0 :: tl:=by
      cases xs with
      | nil=>simp at hx1i
      | cons x0 tl=>exact ⟨x0,tl,rfl⟩
     obtain ⟨ga,cur,-,rfl,hga,kg,-⟩:=HO2.o.open_ (k:=0) (by simp);have hcap:(x0 :: tl).length≤d1:=AtomsO.capL HO2.o;have hd1:1<d1:=by simp at hcap hx1i;omega
     have hd2:¬d1 - 1=0:=by omega
     have hd3:d1≠1:=by omega
     have hti:(0:Int)<(tl.length:Int)+1:=by omega
     have hti1:(1:Int)≤(tl.length:Int)+1:=by omega
     have htl:tl.length≤19:=by simp at hxl;omega
     have HXV:=ax (HO2.o.readsI).2;have hc3:=HXV.o.cl (k:=0) (by simp);obtain ⟨z0,z1,z2⟩:=hc3;simp only[Nat.zero_mul,Nat.add_zero,Nat.zero_add,List.getElem_cons_zero] at z0 z1 z2;clear kg hga hcap;(go_wp2_with fail);refine wp_region_noPanic ?_;refine wp_region_last' (S:=(fun w'=>(∀ i,w'.cell? ⟨X,i,none⟩=#[.slice F fs.length e1,.slice (some ⟨ga,0,none⟩) (x0 :: tl).length d1][i]?)∧w'.cell? ⟨ga,0,none⟩=some (.int .i64 x0.kind)∧w'.cell? ⟨ga,1,none⟩=some (.int .i64 x0.a)∧w'.cell? ⟨ga,2,none⟩=some (.int .i64 x0.b))) (by simp) (by kernel_rfl) (by kernel_rfl) (⟨Blk.cell blks,z0,z1,z2⟩) (fun aH=>?_);simp only[List.dropLast,List.getLast,nopOf,List.cons_append,List.nil_append,List.length_cons,List.length_nil,Nat.zero_add,Nat.reduceAdd];refine tk2 1 rfl aH (h:=tk2 2 rfl aH (h:=tk2 3 rfl aH (h:=?_)));(try simp only[zz]);refine tk2 5 rfl aH (h:=tk2 6 rfl aH (h:=tk2 7 rfl aH (h:=?_)));(try simp only[zz]);refine tk2 8 rfl aH (h:=?_);(try simp only[zz])
     refine wpAnyH_par [0,4,9] #[true,true,true,true,true,true,true,true,true,true,false,false,false] 3 (by kernel_rfl) aH
      (fun a0 D a1 w'=>aJ (Below w8.heap.size w8 w')∧aJ (dn D 4=true→dn D 0=true)∧
       ∃ v66 v70 v75,a1=((a0.put (some 66) v66).put (some 70) v70).put (some 75) v75∧
        aJ (dn D 0=true→dn D 4=false→(∃ y,v66=.slice (some ⟨y,0,none⟩) 0 0)∧AtomsO w' w8.heap.size v66 [])∧
        aJ (dn D 4=true→(∃ A c,v70=.slice A tl.length c)∧AtomsO w' w8.heap.size v70 tl)∧
        aJ (dn D 9=true→∃ y,v75=.slice (some ⟨y,0,none⟩) 1 1∧Blk w' y tA #[.int .i64 x0.kind,.int .i64 x0.a,.int .i64 x0.b]∧(dn D 0=true→dn D 4=false→v66.ownBlock≠some y))) ?start ?steps ?fin
     case start=>exact ⟨(Below.refl _ w8).drew,fun h=>absurd h (by decide),undef,undef,undef,rfl,fun h=>absurd h (by decide),fun h=>absurd h (by decide),fun h=>absurd h (by decide)⟩
     case steps=>
      refine ParSteps.cons rfl (fun D a1 w' hu hd hI hS K' hK G' hG=>?_) (ParSteps.cons rfl (fun D a1 w' hu hd hI hS K' hK G' hG=>?_) (ParSteps.cons rfl (fun D a1 w' hu hd hI hS K' hK G' hG=>?_) ParSteps.nil))
      ·obtain ⟨HW,HC,v66,v70,v75,ha,h0,h4,h9⟩:=hI;rw[ha] at hG;clear ha a1;have u0:=dn_un hu;have u4:dn D 4=false:=by cases e:dn D 4;rfl;have:=HC.o e;rw[u0] at this;cases this
       have HU:=ax u4;clear u0 u4;refine hG ?_;clear hG hd;(try simp only[zz]);go_simp;have hB2:Below w8.heap.size w8 (w'.alloc (.cells #[] tA)):=HW.o.alloc HW.o.size _;have hBw:Below w'.heap.size w' (w'.alloc (.cells #[] tA)):=bbox (Below.refl _ _) _;have hcc:=(HXV.o.bz hB2).cl (k:=0) (by simp);simp only[Nat.zero_mul,Nat.add_zero,Nat.zero_add,List.getElem_cons_zero] at hcc;refine hK.out _ _ ⟨(kx.nz hB2).cell,hcc⟩ ⟨hB2,fun _=>dn_self hu,.slice (some ⟨w'.heap.size,0,none⟩) 0 0,v70,v75,rfl,fun _ _=>⟨⟨_,rfl⟩,(AtomsO.empty w').bq HW.o.size⟩,fun h=>?_,fun h=>?_⟩
       ·rw[dn_ne (by decide)] at h;rw[HU.o] at h;cases h
       ·rw[dn_ne (by decide)] at h;obtain ⟨y,e,hk,-⟩:=h9.o h;exact ⟨y,e,hk.alloc _,fun _ _ e2=>by have:=hk.lt;simp[Value.ownBlock] at e2;omega⟩
      ·obtain ⟨HW,HC,v66,v70,v75,ha,h0,h4,h9⟩:=hI;rw[ha] at hG;clear ha a1;have u4:=dn_un hu;have t0:dn D 0=true:=hd ⟨0,.data⟩ (by simp) (by decide);obtain ⟨⟨y,rfl⟩,o⟩:=h0.o t0 u4;have HO:=ax o;have HU:=ax (And.intro u4 t0);clear u4 t0 o h0 hd;refine hG ?_;clear hG;(try simp only[zz]);rw[if_pos (by simp[Region.wanted])];refine wp_appAL (base:=w8.heap.size) (xs:=[]) (ys:=tl) _ _ rfl rfl HO.o rfl (Rd.tailA (HXV.o.bz HW.o)) (by simp;omega) HW.o.size ?_;intro A' c' w2 o2 hg2 hB2;simp only[List.nil_append] at o2 ⊢;have hB3:Below w8.heap.size w8 w2:=HW.o.trans hB2;have hcc:=(HXV.o.bz hB3).cl (k:=0) (by simp);simp only[Nat.zero_mul,Nat.add_zero,Nat.zero_add,List.getElem_cons_zero] at hcc;refine hK.out _ _ ⟨(kx.nz hB3).cell,hcc⟩ ⟨hB3,fun _=>?_,.slice (some ⟨y,0,none⟩) 0 0,.slice A' tl.length c',v75,rfl,fun _ h=>?_,fun _=>⟨⟨A',c',rfl⟩,o2⟩,fun h=>?_⟩
       ·rw[dn_ne (by decide)];exact HU.o.2
       ·rw[dn_self hu] at h;cases h
       ·rw[dn_ne (by decide)] at h;obtain ⟨z,e,hk,hne⟩:=h9.o h;exact ⟨z,e,hk.grown hg2 (fun e2=>hne HU.o.2 HU.o.1 e2.symm),fun _ h2=>by rw[dn_self hu] at h2;cases h2⟩
      ·obtain ⟨HW,HC,v66,v70,v75,ha,h0,h4,h9⟩:=hI;rw[ha] at hG;clear ha a1;refine hG ?_;clear hG hd;(try simp only[zz]);go_simp;have hB2:Below w8.heap.size w8 (w'.alloc (.cells #[.int .i64 x0.kind,.int .i64 x0.a,.int .i64 x0.b] tA)):=HW.o.alloc HW.o.size _;have hBw:Below w'.heap.size w' (w'.alloc (.cells #[.int .i64 x0.kind,.int .i64 x0.a,.int .i64 x0.b] tA)):=bbox (Below.refl _ _) _;have hcc:=(HXV.o.bz hB2).cl (k:=0) (by simp);simp only[Nat.zero_mul,Nat.add_zero,Nat.zero_add,List.getElem_cons_zero] at hcc;refine hK.out _ _ ⟨(kx.nz hB2).cell,hcc⟩ ⟨hB2,fun h=>?_,v66,v70,.slice (some ⟨w'.heap.size,0,none⟩) 1 1,rfl,fun h h'=>?_,fun h=>?_,fun _=>⟨_,rfl,Blk.new _ _ _,fun h h' e=>?_⟩⟩
       ·rw[dn_ne (by decide)] at h ⊢;exact HC.o h
       ·rw[dn_ne (by decide)] at h h';exact ⟨(h0.o h h').1,(h0.o h h').2.bz hBw⟩
       ·rw[dn_ne (by decide)] at h;exact ⟨(h4.o h).1,(h4.o h).2.bz hBw⟩
       ·rw[dn_ne (by decide)] at h h';have:=((h0.o h h').2.1.lt _ e).2;omega
     case fin=>
      rintro a1 w9 aH ⟨HW,-,v66,v70,v75,rfl,-,h4,h9⟩;obtain ⟨⟨A9,c9,rfl⟩,o9⟩:=h4.o (by decide);obtain ⟨y9,rfl,ky9,-⟩:=h9.o (by decide);have HO9:=ax o9;clear o9 h4 h9;(try simp only[zz]);refine rdc 10 rfl fun K hK=>?_;skip;(refine stepAL (base:=w8.heap.size) (xs:=tl) (ys:=[x0]) rfl _ _ rfl rfl HO9.o rfl (AtomsV.one (f:=x0) ky9) (by simp;omega) HW.o.size ?_;intro A10 c10 w10 o10 hg10 hB10;have hB11:Below w8.heap.size w8 w10:=HW.o.trans hB10;have hcc:=(HXV.o.bz hB11).cl (k:=0) (by simp);simp only[Nat.zero_mul,Nat.add_zero,Nat.zero_add,List.getElem_cons_zero] at hcc);refine hK.out _ _ (⟨(kx.nz hB11).cell,hcc⟩) ?_;clear aH hK K;intro aH;(try simp only[zz]);rw[List.length_append,List.length_singleton] at o10;have HO10:=ax o10;have hsz8:=HF.o.size;have kx10:=kx.nz hB11;have k110:=k1.nz hB11;have HF10:=ax (HF.o.go hB11);have HR10:=ax (HR.o.bz hB11);have HFO10:=ax (HFO.o.bz hB11);clear o10 hg10 hB10 HW HO9 ky9 HO2 kx k1 HF HR HFO qk1 rk1 lk1 qkx rkx lkx z0 z1 z2;(replace qk110:=k110.cell;replace rk110:=k110.frozen;replace lk110:=k110.lt;replace qkx10:=kx10.z);refine tk2 11 rfl aH (h:=?_);(try simp only[zz]);refine rdc 12 rfl fun K hK=>?_;go_simp;refine hK.out _ _ (⟨kx10.cell,hcc⟩) (fun aH=>?_);clear hK K;refine wpAnyH_done (by kernel_rfl) ?_ _;unfold lastQ;go_simp;refine NoPanic.normal ?_;have hne:X≠w.heap.size+1:=by omega
      have kx11:=kx10.set_ 1 (.slice A10 (tl.length+1) c10);have k111:=k110.far (p:=⟨X,1,none⟩) (by simp only;omega) (.slice A10 (tl.length+1) c10);have HO11:=ax (HO10.o.setT kx10 (by decide) 1 (.slice A10 (tl.length+1) c10));have HFO11:=ax (HFO10.o.setT kx10 (by decide) 1 (.slice A10 (tl.length+1) c10));have HR11:=ax (HR10.o.set_ (q:=⟨X,1,none⟩) (by simp only;omega) (.slice A10 (tl.length+1) c10));have HF11:=ax (HF10.o.set_ (p:=⟨X,1,none⟩) (Or.inr (by simp only;omega)) (.slice A10 (tl.length+1) c10));clear hcc aH;(go_wp2_with fail)
      first
      | (refine bodyPost_ret (v:=.agg #[.slice F fs.length e1,.slice A10 (tl.length+1) c10]) (by simp[results,Tryz.results101,go_sem,qk110]) rfl ⟨_,rfl,⟨fs,tl++[x0]⟩,⟨F,e1,A10,c10,by simp,?_,?_⟩,hfl,by simp;omega,q,?_,by omega,?_⟩)
      | (refine bodyPost_ret (v:=.agg #[.slice F fs.length e1,.slice A10 (tl.length+1) c10]) (by simp[results,Tryz.results101,go_sem,qk110]) rfl ⟨_,⟨fs,tl++[x0]⟩,q,rfl,⟨F,e1,A10,c10,by simp,?_,?_⟩,hfl,by simp;omega,?_,by omega,?_⟩)
      ·exact HREL.o.rj ((HFO11.o.setT k111 (by decide) 0 _).setT (k111.set_ 0 _) (by decide) 1 _)
      ·exact (((((HO11.o.bq (base':=w.heap.size) (by omega)).setT k111 (by decide) 0 _).setT (k111.set_ 0 _) (by decide) 1 _)).reads2)
      ·exact (HR11.o.set_ (q:=⟨w.heap.size+1,0,none⟩) (by simp only;omega) _).set_ (q:=⟨w.heap.size+1,1,none⟩) (by simp only;omega) _
      ·exact (HF11.o.set_ (p:=⟨w.heap.size+1,0,none⟩) (Or.inr (by simp only;omega)) _).set_ (p:=⟨w.heap.size+1,1,none⟩) (Or.inr (by simp only;omega)) _
    have hm8b:((m8:Int) == 0)=false:=by simpa using hm80
    clear hm80 hm8;have hne:X≠w.heap.size+1:=by omega
    go_wp2_with fail
    first
    | (refine bodyPost_ret (v:=.agg #[.slice F fs.length e1,.slice G xs.length d1]) (by simp[results,Tryz.results101,go_sem,qk1]) rfl ⟨_,rfl,⟨fs,xs⟩,⟨F,e1,G,d1,rfl,?_,?_⟩,hfl,hxl,q,?_,by omega,?_⟩)
    | (refine bodyPost_ret (v:=.agg #[.slice F fs.length e1,.slice G xs.length d1]) (by simp[results,Tryz.results101,go_sem,qk1]) rfl ⟨_,⟨fs,xs⟩,q,rfl,⟨F,e1,G,d1,rfl,?_,?_⟩,hfl,hxl,?_,by omega,?_⟩)
    ·exact HREL.o.rj ((HFO.o.setT k1 (by decide) 0 _).setT (k1.set_ 0 _) (by decide) 1 _)
    ·exact ((((HO2.o.setT k1 (by decide) 0 _).setT (k1.set_ 0 _) (by decide) 1 _)).readsI).2
    ·exact (HR.o.set_ (q:=⟨w.heap.size+1,0,none⟩) (by simp only;omega) _).set_ (q:=⟨w.heap.size+1,1,none⟩) (by simp only;omega) _
    ·exact (HF.o.set_ (p:=⟨w.heap.size+1,0,none⟩) (Or.inr (by simp only;omega)) _).set_ (p:=⟨w.heap.size+1,1,none⟩) (Or.inr (by simp only;omega)) _
   have hf0:(0:Int)<(fs.length:Int):=by omega
   (go_wp2_with fail);refine (c_pick g q 2 _ HR.o (by omega)).mono ?_;rintro e w5 ⟨m5,rfl,hm5,hR,hF⟩;replace k1:=k1.fr hF (by omega);replace kx:=kx.fr hF (by omega);replace HF:=ax (HF.o.trans hF);replace HFO:=ax (HFO.o.fr hF hlt);replace HO2:=ax (HO2.o.fr hF hlt);replace HR:=ax hR;replace hq:q+1≤p+2:=by omega
   generalize q+1=q at HR hq;clear hR hF;(replace qk1:=k1.cell;replace rk1:=k1.frozen;replace lk1:=k1.lt;replace qkx:=kx.cell;replace rkx:=kx.frozen;replace lkx:=kx.lt);by_cases hm50:(m5:Int)=0
   ·have hm5b:((m5:Int) == 0)=true:=by simpa using hm50
    clear hm50 hm5
    obtain ⟨f,ft0,rfl⟩:∃ f ft,fs=f :: ft:=by
     cases fs with
     | nil=>simp at hf
     | cons f ft=>exact ⟨f,ft,rfl⟩
    have hcapF:(f :: ft0).length≤e1:=FactsO.capL HFO.o;obtain ⟨gf,curf,-,rfl,hgf,kf,-⟩:=HFO.o.open_ (k:=0) (by simp);have hft1:(1:Int)≤(ft0.length:Int)+1:=by omega
    clear kf hf hf0;by_cases he1:e1=1
    ·subst he1
     have hftn:ft0=[]:=by
      cases ft0 with
      | nil=>rfl
      | cons a b=>simp at hcapF
     clear hcapF;have hflN:([]:List Fct).length≤20:=by (first|(simp;done)|(simp at hfl ⊢;omega))
     have hXw1:w.heap.size+1≠X:=by omega
     have HREL:aJ (FRel (some ⟨gf,0,none⟩) (f :: ft0) (some ⟨gf,0,none⟩) ([]:List Fct)):=Or.inr (Or.inr rfl);have kx0:=kx;replace HFO:=ax (HFO.o.setT kx0 (by decide) 0 (.slice (some ⟨gf,0,none⟩) ([]:List Fct).length (0)));replace HO2:=ax (HO2.o.setT kx0 (by decide) 0 (.slice (some ⟨gf,0,none⟩) ([]:List Fct).length (0)));replace HR:=ax (HR.o.set_ (q:=⟨X,0,none⟩) (by simp only;omega) (.slice (some ⟨gf,0,none⟩) ([]:List Fct).length (0)));replace HF:=ax (HF.o.set_ (p:=⟨X,0,none⟩) (Or.inr (by simp only;omega)) (.slice (some ⟨gf,0,none⟩) ([]:List Fct).length (0)));replace k1:=k1.far (p:=⟨X,0,none⟩) (by simp only;omega) (.slice (some ⟨gf,0,none⟩) ([]:List Fct).length (0));replace kx:Blk (w5.setCell ⟨X,0,none⟩ (.slice (some ⟨gf,0,none⟩) ([]:List Fct).length (0))) X tAs #[(.slice (some ⟨gf,0,none⟩) ([]:List Fct).length (0)),.slice G xs.length d1]:=by simpa using kx0.set_ 0 (.slice (some ⟨gf,0,none⟩) ([]:List Fct).length (0))
     clear kx0;subst hftn;by_cases hx0:xs.length=0
     ·have hx0i:¬(0:Int)<(xs.length:Int):=by omega
      have hx1i:¬(1:Int)<(xs.length:Int):=by omega
      clear hx0;have hne:X≠w.heap.size+1:=by omega
      go_wp2_with fail
      first
      | (refine bodyPost_ret (v:=.agg #[.slice (some ⟨gf,0,none⟩) ([]:List Fct).length 0,.slice G xs.length d1]) (by simp[results,Tryz.results101,go_sem,qk1]) rfl ⟨_,rfl,⟨([]:List Fct),xs⟩,⟨(some ⟨gf,0,none⟩),0,G,d1,rfl,?_,?_⟩,hflN,hxl,q,?_,by omega,?_⟩)
      | (refine bodyPost_ret (v:=.agg #[.slice (some ⟨gf,0,none⟩) ([]:List Fct).length 0,.slice G xs.length d1]) (by simp[results,Tryz.results101,go_sem,qk1]) rfl ⟨_,⟨([]:List Fct),xs⟩,q,rfl,⟨(some ⟨gf,0,none⟩),0,G,d1,rfl,?_,?_⟩,hflN,hxl,?_,by omega,?_⟩)
      ·exact HREL.o.rj ((HFO.o.setT k1 (by decide) 0 _).setT (k1.set_ 0 _) (by decide) 1 _)
      ·exact ((((HO2.o.setT k1 (by decide) 0 _).setT (k1.set_ 0 _) (by decide) 1 _)).readsI).2
      ·exact (HR.o.set_ (q:=⟨w.heap.size+1,0,none⟩) (by simp only;omega) _).set_ (q:=⟨w.heap.size+1,1,none⟩) (by simp only;omega) _
      ·exact (HF.o.set_ (p:=⟨w.heap.size+1,0,none⟩) (Or.inr (by simp only;omega)) _).set_ (p:=⟨w.heap.size+1,1,none⟩) (Or.inr (by simp only;omega)) _
     have hx0i:(0:Int)<(xs.length:Int):=by omega
     (go_wp2_with fail);refine (c_pick g q 3 _ HR.o (by omega)).mono ?_;rintro e w6 ⟨m6,rfl,hm6,hR,hF⟩;replace k1:=k1.fr hF (by omega);replace kx:=kx.fr hF (by omega);replace HF:=ax (HF.o.trans hF);replace HFO:=ax (HFO.o.fr hF hlt);replace HO2:=ax (HO2.o.fr hF hlt);replace HR:=ax hR;replace hq:q+1≤p+3:=by omega
     generalize q+1=q at HR hq;clear hR hF;(replace qk1:=k1.cell;replace rk1:=k1.frozen;replace lk1:=k1.lt;replace qkx:=kx.cell;replace rkx:=kx.frozen;replace lkx:=kx.lt);by_cases hm60:(m6:Int)=0
     ·have hm6b:((m6:Int) == 0)=true:=by simpa using hm60
      clear hm60 hm6;(go_wp2_with fail);refine (c_pick g q (xs.length:Int) _ HR.o (by omega)).mono ?_;rintro e w7 ⟨m7,rfl,hm7,hR,hF⟩;replace k1:=k1.fr hF (by omega);replace kx:=kx.fr hF (by omega);replace HF:=ax (HF.o.trans hF);replace HFO:=ax (HFO.o.fr hF hlt);replace HO2:=ax (HO2.o.fr hF hlt);replace HR:=ax hR;replace hq:q+1≤p+4:=by omega
      generalize q+1=q at HR hq;clear hR hF;(replace qk1:=k1.cell;replace rk1:=k1.frozen;replace lk1:=k1.lt;replace qkx:=kx.cell;replace rkx:=kx.frozen;replace lkx:=kx.lt);have hm7l:m7<xs.length:=by omega
      obtain ⟨ga,cur,-,rfl,hga,kg,hsz3,hc0,hc1,hc2,hset⟩:=HO2.o.open_ (k:=m7) hm7l;have qg:=(kg.cell (m7 * 3)).trans hc0;have rg:=kg.frozen;have lg:=kg.lt;obtain ⟨ok,hok⟩:∃ ok,ok=(xs[m7]'hm7l).kind:=⟨_,rfl⟩;rw[←hok] at qg;have hm7i:(m7:Int)<(xs.length:Int):=by omega
      have hxg:X≠ga:=kx.ne_ kg (by decide);have h1g:w.heap.size+1≠ga:=k1.ne_ kg (by decide);clear hc0 hc1 hc2 hok hsz3 hm7;obtain ⟨ys,hys⟩:∃ ys,ys=xs.set m7 ⟨2,(xs[m7]'hm7l).a,(xs[m7]'hm7l).b⟩:=⟨_,rfl⟩;have hyl:ys.length=xs.length:=by rw[hys];simp
      have E0:=hset (m7 * 3) (.int .i64 2) ys (by rw[hys];exact encA_setK hm7l 2) hyl;rw[←hyl] at E0 kx hm7i hxl hx0i;have hga0:=kg;clear hset HO2 hys;have HO2:=ax E0;clear E0;replace HFO:=ax (HFO.o.setT kg (by decide) (m7 * 3) (.int .i64 2));replace HR:=ax (HR.o.set_ (q:=⟨ga,m7 * 3,none⟩) (by simp only;omega) (.int .i64 2));replace HF:=ax (HF.o.set_ (p:=⟨ga,m7 * 3,none⟩) (Or.inr hga) (.int .i64 2));(replace qk1:=k1.cell;replace rk1:=k1.frozen;replace lk1:=k1.lt;replace qkx:=kx.cell;replace rkx:=kx.frozen;replace lkx:=kx.lt);have qk17:=qk1;have qkx7:=qkx;have lk17:=lk1;have lkx7:=lkx;have rk17:=rk1;have rkx7:=rkx;replace k1:=k1.far (p:=⟨ga,m7 * 3,none⟩) h1g (.int .i64 2);replace kx:=kx.far (p:=⟨ga,m7 * 3,none⟩) hxg (.int .i64 2);have hgx:ga≠X:=fun e=>hxg e.symm;have hg1:ga≠w.heap.size+1:=fun e=>h1g e.symm;clear hyl hx0 hm7l;by_cases hx1:ys.length≤1
      ·have hx1i:¬(1:Int)<(ys.length:Int):=by omega
       have hne:X≠w.heap.size+1:=by omega
       go_wp2_with fail
       first
       | (refine bodyPost_ret (v:=.agg #[.slice (some ⟨gf,0,none⟩) ([]:List Fct).length 0,.slice (some ⟨ga,0,none⟩) ys.length d1]) (by simp[results,Tryz.results101,go_sem,qk17,lk17,h1g,hg1]) rfl ⟨_,rfl,⟨([]:List Fct),ys⟩,⟨(some ⟨gf,0,none⟩),0,(some ⟨ga,0,none⟩),d1,rfl,?_,?_⟩,hflN,hxl,q,?_,by omega,?_⟩)
       | (refine bodyPost_ret (v:=.agg #[.slice (some ⟨gf,0,none⟩) ([]:List Fct).length 0,.slice (some ⟨ga,0,none⟩) ys.length d1]) (by simp[results,Tryz.results101,go_sem,qk17,lk17,h1g,hg1]) rfl ⟨_,⟨([]:List Fct),ys⟩,q,rfl,⟨(some ⟨gf,0,none⟩),0,(some ⟨ga,0,none⟩),d1,rfl,?_,?_⟩,hflN,hxl,?_,by omega,?_⟩)
       ·exact HREL.o.rj ((HFO.o.setT k1 (by decide) 0 _).setT (k1.set_ 0 _) (by decide) 1 _)
       ·exact ((((HO2.o.setT k1 (by decide) 0 _).setT (k1.set_ 0 _) (by decide) 1 _)).readsI).2
       ·exact (HR.o.set_ (q:=⟨w.heap.size+1,0,none⟩) (by simp only;omega) _).set_ (q:=⟨w.heap.size+1,1,none⟩) (by simp only;omega) _
       ·exact (HF.o.set_ (p:=⟨w.heap.size+1,0,none⟩) (Or.inr (by simp only;omega)) _).set_ (p:=⟨w.heap.size+1,1,none⟩) (Or.inr (by simp only;omega)) _
      have hx1i:(1:Int)<(ys.length:Int):=by omega
      (go_wp2_with fail);refine (c_pick g q 3 _ HR.o (by omega)).mono ?_;rintro e w8 ⟨m8,rfl,hm8,hR,hF⟩;replace k1:=k1.fr hF (by omega);replace kx:=kx.fr hF (by omega);replace HF:=ax (HF.o.trans hF);replace HFO:=ax (HFO.o.fr hF hlt);replace HO2:=ax (HO2.o.fr hF hlt);replace HR:=ax hR;replace hq:q+1≤p+5:=by omega
      generalize q+1=q at HR hq;clear hR hF;(replace qk1:=k1.cell;replace rk1:=k1.frozen;replace lk1:=k1.lt;replace qkx:=kx.cell;replace rkx:=kx.frozen;replace lkx:=kx.lt);by_cases hm80:(m8:Int)=0
      ·have hm8b:((m8:Int) == 0)=true:=by simpa using hm80
       clear hm80 hm8
       obtain ⟨x0,tl,rfl⟩:∃ x0 tl,ys=x0 :: tl:=by
        cases ys with
        | nil=>simp at hx1i
        | cons x0 tl=>exact ⟨x0,tl,rfl⟩
       have hcap:(x0 :: tl).length≤d1:=AtomsO.capL HO2.o;have hd1:1<d1:=by simp at hcap hx1i;omega
       have hd2:¬d1 - 1=0:=by omega
       have hd3:d1≠1:=by omega
       have hti:(0:Int)<(tl.length:Int)+1:=by omega
       have hti1:(1:Int)≤(tl.length:Int)+1:=by omega
       have htl:tl.length≤19:=by simp at hxl;omega
       have HXV:=ax (HO2.o.readsI).2;have hc3:=HXV.o.cl (k:=0) (by simp);obtain ⟨z0,z1,z2⟩:=hc3;simp only[Nat.zero_mul,Nat.add_zero,Nat.zero_add,List.getElem_cons_zero] at z0 z1 z2;clear hcap;(go_wp2_with fail);refine wp_region_noPanic ?_;refine wp_region_last' (S:=(fun w'=>(∀ i,w'.cell? ⟨X,i,none⟩=#[.slice (some ⟨gf,0,none⟩) ([]:List Fct).length 0,.slice (some ⟨ga,0,none⟩) (x0 :: tl).length d1][i]?)∧w'.cell? ⟨ga,0,none⟩=some (.int .i64 x0.kind)∧w'.cell? ⟨ga,1,none⟩=some (.int .i64 x0.a)∧w'.cell? ⟨ga,2,none⟩=some (.int .i64 x0.b))) (by simp) (by kernel_rfl) (by kernel_rfl) (⟨Blk.cell blks,z0,z1,z2⟩) (fun aH=>?_);simp only[List.dropLast,List.getLast,nopOf,List.cons_append,List.nil_append,List.length_cons,List.length_nil,Nat.zero_add,Nat.reduceAdd];refine tk2 1 rfl aH (h:=tk2 2 rfl aH (h:=tk2 3 rfl aH (h:=?_)));(try simp only[zz]);refine tk2 5 rfl aH (h:=tk2 6 rfl aH (h:=tk2 7 rfl aH (h:=?_)));(try simp only[zz]);refine tk2 8 rfl aH (h:=?_);(try simp only[zz])
       refine wpAnyH_par [0,4,9] #[true,true,true,true,true,true,true,true,true,true,false,false,false] 3 (by kernel_rfl) aH
        (fun a0 D a1 w'=>aJ (Below w8.heap.size w8 w')∧aJ (dn D 4=true→dn D 0=true)∧
         ∃ v66 v70 v75,a1=((a0.put (some 66) v66).put (some 70) v70).put (some 75) v75∧
          aJ (dn D 0=true→dn D 4=false→(∃ y,v66=.slice (some ⟨y,0,none⟩) 0 0)∧AtomsO w' w8.heap.size v66 [])∧
          aJ (dn D 4=true→(∃ A c,v70=.slice A tl.length c)∧AtomsO w' w8.heap.size v70 tl)∧
          aJ (dn D 9=true→∃ y,v75=.slice (some ⟨y,0,none⟩) 1 1∧Blk w' y tA #[.int .i64 x0.kind,.int .i64 x0.a,.int .i64 x0.b]∧(dn D 0=true→dn D 4=false→v66.ownBlock≠some y))) ?start ?steps ?fin
       case start=>exact ⟨(Below.refl _ w8).drew,fun h=>absurd h (by decide),undef,undef,undef,rfl,fun h=>absurd h (by decide),fun h=>absurd h (by decide),fun h=>absurd h (by decide)⟩
       case steps=>
        refine ParSteps.cons rfl (fun D a1 w' hu hd hI hS K' hK G' hG=>?_) (ParSteps.cons rfl (fun D a1 w' hu hd hI hS K' hK G' hG=>?_) (ParSteps.cons rfl (fun D a1 w' hu hd hI hS K' hK G' hG=>?_) ParSteps.nil))
        ·obtain ⟨HW,HC,v66,v70,v75,ha,h0,h4,h9⟩:=hI;rw[ha] at hG;clear ha a1;have u0:=dn_un hu;have u4:dn D 4=false:=by cases e:dn D 4;rfl;have:=HC.o e;rw[u0] at this;cases this
         have HU:=ax u4;clear u0 u4;refine hG ?_;clear hG hd;(try simp only[zz]);go_simp;have hB2:Below w8.heap.size w8 (w'.alloc (.cells #[] tA)):=HW.o.alloc HW.o.size _;have hBw:Below w'.heap.size w' (w'.alloc (.cells #[] tA)):=bbox (Below.refl _ _) _;have hcc:=(HXV.o.bz hB2).cl (k:=0) (by simp);simp only[Nat.zero_mul,Nat.add_zero,Nat.zero_add,List.getElem_cons_zero] at hcc;refine hK.out _ _ ⟨(kx.nz hB2).cell,hcc⟩ ⟨hB2,fun _=>dn_self hu,.slice (some ⟨w'.heap.size,0,none⟩) 0 0,v70,v75,rfl,fun _ _=>⟨⟨_,rfl⟩,(AtomsO.empty w').bq HW.o.size⟩,fun h=>?_,fun h=>?_⟩
         ·rw[dn_ne (by decide)] at h;rw[HU.o] at h;cases h
         ·rw[dn_ne (by decide)] at h;obtain ⟨y,e,hk,-⟩:=h9.o h;exact ⟨y,e,hk.alloc _,fun _ _ e2=>by have:=hk.lt;simp[Value.ownBlock] at e2;omega⟩
        ·obtain ⟨HW,HC,v66,v70,v75,ha,h0,h4,h9⟩:=hI;rw[ha] at hG;clear ha a1;have u4:=dn_un hu;have t0:dn D 0=true:=hd ⟨0,.data⟩ (by simp) (by decide);obtain ⟨⟨y,rfl⟩,o⟩:=h0.o t0 u4;have HO:=ax o;have HU:=ax (And.intro u4 t0);clear u4 t0 o h0 hd;refine hG ?_;clear hG;(try simp only[zz]);rw[if_pos (by simp[Region.wanted])];refine wp_appAL (base:=w8.heap.size) (xs:=[]) (ys:=tl) _ _ rfl rfl HO.o rfl (Rd.tailA (HXV.o.bz HW.o)) (by simp;omega) HW.o.size ?_;intro A' c' w2 o2 hg2 hB2;simp only[List.nil_append] at o2 ⊢;have hB3:Below w8.heap.size w8 w2:=HW.o.trans hB2;have hcc:=(HXV.o.bz hB3).cl (k:=0) (by simp);simp only[Nat.zero_mul,Nat.add_zero,Nat.zero_add,List.getElem_cons_zero] at hcc;refine hK.out _ _ ⟨(kx.nz hB3).cell,hcc⟩ ⟨hB3,fun _=>?_,.slice (some ⟨y,0,none⟩) 0 0,.slice A' tl.length c',v75,rfl,fun _ h=>?_,fun _=>⟨⟨A',c',rfl⟩,o2⟩,fun h=>?_⟩
         ·rw[dn_ne (by decide)];exact HU.o.2
         ·rw[dn_self hu] at h;cases h
         ·rw[dn_ne (by decide)] at h;obtain ⟨z,e,hk,hne⟩:=h9.o h;exact ⟨z,e,hk.grown hg2 (fun e2=>hne HU.o.2 HU.o.1 e2.symm),fun _ h2=>by rw[dn_self hu] at h2;cases h2⟩
        ·obtain ⟨HW,HC,v66,v70,v75,ha,h0,h4,h9⟩:=hI;rw[ha] at hG;clear ha a1;refine hG ?_;clear hG hd;(try simp only[zz]);go_simp;have hB2:Below w8.heap.size w8 (w'.alloc (.cells #[.int .i64 x0.kind,.int .i64 x0.a,.int .i64 x0.b] tA)):=HW.o.alloc HW.o.size _;have hBw:Below w'.heap.size w' (w'.alloc (.cells #[.int .i64 x0.kind,.int .i64 x0.a,.int .i64 x0.b] tA)):=bbox (Below.refl _ _) _;have hcc:=(HXV.o.bz hB2).cl (k:=0) (by simp);simp only[Nat.zero_mul,Nat.add_zero,Nat.zero_add,List.getElem_cons_zero] at hcc;refine hK.out _ _ ⟨(kx.nz hB2).cell,hcc⟩ ⟨hB2,fun h=>?_,v66,v70,.slice (some ⟨w'.heap.size,0,none⟩) 1 1,rfl,fun h h'=>?_,fun h=>?_,fun _=>⟨_,rfl,Blk.new _ _ _,fun h h' e=>?_⟩⟩
         ·rw[dn_ne (by decide)] at h ⊢;exact HC.o h
         ·rw[dn_ne (by decide)] at h h';exact ⟨(h0.o h h').1,(h0.o h h').2.bz hBw⟩
         ·rw[dn_ne (by decide)] at h;exact ⟨(h4.o h).1,(h4.o h).2.bz hBw⟩
         ·rw[dn_ne (by decide)] at h h';have:=((h0.o h h').2.1.lt _ e).2;omega
       case fin=>
        rintro a1 w9 aH ⟨HW,-,v66,v70,v75,rfl,-,h4,h9⟩;obtain ⟨⟨A9,c9,rfl⟩,o9⟩:=h4.o (by decide);obtain ⟨y9,rfl,ky9,-⟩:=h9.o (by decide);have HO9:=ax o9;clear o9 h4 h9;(try simp only[zz]);refine rdc 10 rfl fun K hK=>?_;skip;(refine stepAL (base:=w8.heap.size) (xs:=tl) (ys:=[x0]) rfl _ _ rfl rfl HO9.o rfl (AtomsV.one (f:=x0) ky9) (by simp;omega) HW.o.size ?_;intro A10 c10 w10 o10 hg10 hB10;have hB11:Below w8.heap.size w8 w10:=HW.o.trans hB10;have hcc:=(HXV.o.bz hB11).cl (k:=0) (by simp);simp only[Nat.zero_mul,Nat.add_zero,Nat.zero_add,List.getElem_cons_zero] at hcc);refine hK.out _ _ (⟨(kx.nz hB11).cell,hcc⟩) ?_;clear aH hK K;intro aH;(try simp only[zz]);rw[List.length_append,List.length_singleton] at o10;have HO10:=ax o10;have hsz8:=HF.o.size;have kx10:=kx.nz hB11;have k110:=k1.nz hB11;have HF10:=ax (HF.o.go hB11);have HR10:=ax (HR.o.bz hB11);have HFO10:=ax (HFO.o.bz hB11);clear o10 hg10 hB10 HW HO9 ky9 HO2 kx k1 HF HR HFO qk1 rk1 lk1 qkx rkx lkx z0 z1 z2;(replace qk110:=k110.cell;replace rk110:=k110.frozen;replace lk110:=k110.lt;replace qkx10:=kx10.z);refine tk2 11 rfl aH (h:=?_);(try simp only[zz]);refine rdc 12 rfl fun K hK=>?_;go_simp;refine hK.out _ _ (⟨kx10.cell,hcc⟩) (fun aH=>?_);clear hK K;refine wpAnyH_done (by kernel_rfl) ?_ _;unfold lastQ;go_simp;refine NoPanic.normal ?_;have hne:X≠w.heap.size+1:=by omega
        have kx11:=kx10.set_ 1 (.slice A10 (tl.length+1) c10);have k111:=k110.far (p:=⟨X,1,none⟩) (by simp only;omega) (.slice A10 (tl.length+1) c10);have HO11:=ax (HO10.o.setT kx10 (by decide) 1 (.slice A10 (tl.length+1) c10));have HFO11:=ax (HFO10.o.setT kx10 (by decide) 1 (.slice A10 (tl.length+1) c10));have HR11:=ax (HR10.o.set_ (q:=⟨X,1,none⟩) (by simp only;omega) (.slice A10 (tl.length+1) c10));have HF11:=ax (HF10.o.set_ (p:=⟨X,1,none⟩) (Or.inr (by simp only;omega)) (.slice A10 (tl.length+1) c10));clear hcc aH;(go_wp2_with fail)
        first
        | (refine bodyPost_ret (v:=.agg #[.slice (some ⟨gf,0,none⟩) ([]:List Fct).length 0,.slice A10 (tl.length+1) c10]) (by simp[results,Tryz.results101,go_sem,qk110]) rfl ⟨_,rfl,⟨([]:List Fct),tl++[x0]⟩,⟨(some ⟨gf,0,none⟩),0,A10,c10,by simp,?_,?_⟩,hflN,by simp;omega,q,?_,by omega,?_⟩)
        | (refine bodyPost_ret (v:=.agg #[.slice (some ⟨gf,0,none⟩) ([]:List Fct).length 0,.slice A10 (tl.length+1) c10]) (by simp[results,Tryz.results101,go_sem,qk110]) rfl ⟨_,⟨([]:List Fct),tl++[x0]⟩,q,rfl,⟨(some ⟨gf,0,none⟩),0,A10,c10,by simp,?_,?_⟩,hflN,by simp;omega,?_,by omega,?_⟩)
        ·exact HREL.o.rj ((HFO11.o.setT k111 (by decide) 0 _).setT (k111.set_ 0 _) (by decide) 1 _)
        ·exact (((((HO11.o.bq (base':=w.heap.size) (by omega)).setT k111 (by decide) 0 _).setT (k111.set_ 0 _) (by decide) 1 _)).reads2)
        ·exact (HR11.o.set_ (q:=⟨w.heap.size+1,0,none⟩) (by simp only;omega) _).set_ (q:=⟨w.heap.size+1,1,none⟩) (by simp only;omega) _
        ·exact (HF11.o.set_ (p:=⟨w.heap.size+1,0,none⟩) (Or.inr (by simp only;omega)) _).set_ (p:=⟨w.heap.size+1,1,none⟩) (Or.inr (by simp only;omega)) _
      have hm8b:((m8:Int) == 0)=false:=by simpa using hm80
      clear hm80 hm8;have hne:X≠w.heap.size+1:=by omega
      go_wp2_with fail
      first
      | (refine bodyPost_ret (v:=.agg #[.slice (some ⟨gf,0,none⟩) ([]:List Fct).length 0,.slice (some ⟨ga,0,none⟩) ys.length d1]) (by simp[results,Tryz.results101,go_sem,qk1]) rfl ⟨_,rfl,⟨([]:List Fct),ys⟩,⟨(some ⟨gf,0,none⟩),0,(some ⟨ga,0,none⟩),d1,rfl,?_,?_⟩,hflN,hxl,q,?_,by omega,?_⟩)
      | (refine bodyPost_ret (v:=.agg #[.slice (some ⟨gf,0,none⟩) ([]:List Fct).length 0,.slice (some ⟨ga,0,none⟩) ys.length d1]) (by simp[results,Tryz.results101,go_sem,qk1]) rfl ⟨_,⟨([]:List Fct),ys⟩,q,rfl,⟨(some ⟨gf,0,none⟩),0,(some ⟨ga,0,none⟩),d1,rfl,?_,?_⟩,hflN,hxl,?_,by omega,?_⟩)
      ·exact HREL.o.rj ((HFO.o.setT k1 (by decide) 0 _).setT (k1.set_ 0 _) (by decide) 1 _)
      ·exact ((((HO2.o.setT k1 (by decide) 0 _).setT (k1.set_ 0 _) (by decide) 1 _)).readsI).2
      ·exact (HR.o.set_ (q:=⟨w.heap.size+1,0,none⟩) (by simp only;omega) _).set_ (q:=⟨w.heap.size+1,1,none⟩) (by simp only;omega) _
      ·exact (HF.o.set_ (p:=⟨w.heap.size+1,0,none⟩) (Or.inr (by simp only;omega)) _).set_ (p:=⟨w.heap.size+1,1,none⟩) (Or.inr (by simp only;omega)) _
     have hm6b:((m6:Int) == 0)=false:=by simpa using hm60
     clear hm60 hm6;by_cases hx1:xs.length≤1
     ·have hx1i:¬(1:Int)<(xs.length:Int):=by omega
      have hne:X≠w.heap.size+1:=by omega
      go_wp2_with fail
      first
      | (refine bodyPost_ret (v:=.agg #[.slice (some ⟨gf,0,none⟩) ([]:List Fct).length 0,.slice G xs.length d1]) (by simp[results,Tryz.results101,go_sem,qk1]) rfl ⟨_,rfl,⟨([]:List Fct),xs⟩,⟨(some ⟨gf,0,none⟩),0,G,d1,rfl,?_,?_⟩,hflN,hxl,q,?_,by omega,?_⟩)
      | (refine bodyPost_ret (v:=.agg #[.slice (some ⟨gf,0,none⟩) ([]:List Fct).length 0,.slice G xs.length d1]) (by simp[results,Tryz.results101,go_sem,qk1]) rfl ⟨_,⟨([]:List Fct),xs⟩,q,rfl,⟨(some ⟨gf,0,none⟩),0,G,d1,rfl,?_,?_⟩,hflN,hxl,?_,by omega,?_⟩)
      ·exact HREL.o.rj ((HFO.o.setT k1 (by decide) 0 _).setT (k1.set_ 0 _) (by decide) 1 _)
      ·exact ((((HO2.o.setT k1 (by decide) 0 _).setT (k1.set_ 0 _) (by decide) 1 _)).readsI).2
      ·exact (HR.o.set_ (q:=⟨w.heap.size+1,0,none⟩) (by simp only;omega) _).set_ (q:=⟨w.heap.size+1,1,none⟩) (by simp only;omega) _
      ·exact (HF.o.set_ (p:=⟨w.heap.size+1,0,none⟩) (Or.inr (by simp only;omega)) _).set_ (p:=⟨w.heap.size+1,1,none⟩) (Or.inr (by simp only;omega)) _
     have hx1i:(1:Int)<(xs.length:Int):=by omega
     (go_wp2_with fail);refine (c_pick g q 3 _ HR.o (by omega)).mono ?_;rintro e w8 ⟨m8,rfl,hm8,hR,hF⟩;replace k1:=k1.fr hF (by omega);replace kx:=kx.fr hF (by omega);replace HF:=ax (HF.o.trans hF);replace HFO:=ax (HFO.o.fr hF hlt);replace HO2:=ax (HO2.o.fr hF hlt);replace HR:=ax hR;replace hq:q+1≤p+4:=by omega
     generalize q+1=q at HR hq;clear hR hF;(replace qk1:=k1.cell;replace rk1:=k1.frozen;replace lk1:=k1.lt;replace qkx:=kx.cell;replace rkx:=kx.frozen;replace lkx:=kx.lt);by_cases hm80:(m8:Int)=0
     ·have hm8b:((m8:Int) == 0)=true:=by simpa using hm80
      clear hm80 hm8
      obtain ⟨x0,tl,rfl⟩:∃ x0 tl,xs=x0 :: tl:=by
       cases xs with
       | nil=>simp at hx1i
       | cons x0 tl=>exact ⟨x0,tl,rfl⟩
      obtain ⟨ga,cur,-,rfl,hga,kg,-⟩:=HO2.o.open_ (k:=0) (by simp);have hcap:(x0 :: tl).length≤d1:=AtomsO.capL HO2.o;have hd1:1<d1:=by simp at hcap hx1i;omega
      have hd2:¬d1 - 1=0:=by omega
      have hd3:d1≠1:=by omega
      have hti:(0:Int)<(tl.length:Int)+1:=by omega
      have hti1:(1:Int)≤(tl.length:Int)+1:=by omega
      have htl:tl.length≤19:=by simp at hxl;omega
      have HXV:=ax (HO2.o.readsI).2;have hc3:=HXV.o.cl (k:=0) (by simp);obtain ⟨z0,z1,z2⟩:=hc3;simp only[Nat.zero_mul,Nat.add_zero,Nat.zero_add,List.getElem_cons_zero] at z0 z1 z2;clear kg hga hcap;(go_wp2_with fail);refine wp_region_noPanic ?_;refine wp_region_last' (S:=(fun w'=>(∀ i,w'.cell? ⟨X,i,none⟩=#[.slice (some ⟨gf,0,none⟩) ([]:List Fct).length 0,.slice (some ⟨ga,0,none⟩) (x0 :: tl).length d1][i]?)∧w'.cell? ⟨ga,0,none⟩=some (.int .i64 x0.kind)∧w'.cell? ⟨ga,1,none⟩=some (.int .i64 x0.a)∧w'.cell? ⟨ga,2,none⟩=some (.int .i64 x0.b))) (by simp) (by kernel_rfl) (by kernel_rfl) (⟨Blk.cell blks,z0,z1,z2⟩) (fun aH=>?_);simp only[List.dropLast,List.getLast,nopOf,List.cons_append,List.nil_append,List.length_cons,List.length_nil,Nat.zero_add,Nat.reduceAdd];refine tk2 1 rfl aH (h:=tk2 2 rfl aH (h:=tk2 3 rfl aH (h:=?_)));(try simp only[zz]);refine tk2 5 rfl aH (h:=tk2 6 rfl aH (h:=tk2 7 rfl aH (h:=?_)));(try simp only[zz]);refine tk2 8 rfl aH (h:=?_);(try simp only[zz])
      refine wpAnyH_par [0,4,9] #[true,true,true,true,true,true,true,true,true,true,false,false,false] 3 (by kernel_rfl) aH
       (fun a0 D a1 w'=>aJ (Below w8.heap.size w8 w')∧aJ (dn D 4=true→dn D 0=true)∧
        ∃ v66 v70 v75,a1=((a0.put (some 66) v66).put (some 70) v70).put (some 75) v75∧
         aJ (dn D 0=true→dn D 4=false→(∃ y,v66=.slice (some ⟨y,0,none⟩) 0 0)∧AtomsO w' w8.heap.size v66 [])∧
         aJ (dn D 4=true→(∃ A c,v70=.slice A tl.length c)∧AtomsO w' w8.heap.size v70 tl)∧
         aJ (dn D 9=true→∃ y,v75=.slice (some ⟨y,0,none⟩) 1 1∧Blk w' y tA #[.int .i64 x0.kind,.int .i64 x0.a,.int .i64 x0.b]∧(dn D 0=true→dn D 4=false→v66.ownBlock≠some y))) ?start ?steps ?fin
      case start=>exact ⟨(Below.refl _ w8).drew,fun h=>absurd h (by decide),undef,undef,undef,rfl,fun h=>absurd h (by decide),fun h=>absurd h (by decide),fun h=>absurd h (by decide)⟩
      case steps=>
       refine ParSteps.cons rfl (fun D a1 w' hu hd hI hS K' hK G' hG=>?_) (ParSteps.cons rfl (fun D a1 w' hu hd hI hS K' hK G' hG=>?_) (ParSteps.cons rfl (fun D a1 w' hu hd hI hS K' hK G' hG=>?_) ParSteps.nil))
       ·obtain ⟨HW,HC,v66,v70,v75,ha,h0,h4,h9⟩:=hI;rw[ha] at hG;clear ha a1;have u0:=dn_un hu;have u4:dn D 4=false:=by cases e:dn D 4;rfl;have:=HC.o e;rw[u0] at this;cases this
        have HU:=ax u4;clear u0 u4;refine hG ?_;clear hG hd;(try simp only[zz]);go_simp;have hB2:Below w8.heap.size w8 (w'.alloc (.cells #[] tA)):=HW.o.alloc HW.o.size _;have hBw:Below w'.heap.size w' (w'.alloc (.cells #[] tA)):=bbox (Below.refl _ _) _;have hcc:=(HXV.o.bz hB2).cl (k:=0) (by simp);simp only[Nat.zero_mul,Nat.add_zero,Nat.zero_add,List.getElem_cons_zero] at hcc;refine hK.out _ _ ⟨(kx.nz hB2).cell,hcc⟩ ⟨hB2,fun _=>dn_self hu,.slice (some ⟨w'.heap.size,0,none⟩) 0 0,v70,v75,rfl,fun _ _=>⟨⟨_,rfl⟩,(AtomsO.empty w').bq HW.o.size⟩,fun h=>?_,fun h=>?_⟩
        ·rw[dn_ne (by decide)] at h;rw[HU.o] at h;cases h
        ·rw[dn_ne (by decide)] at h;obtain ⟨y,e,hk,-⟩:=h9.o h;exact ⟨y,e,hk.alloc _,fun _ _ e2=>by have:=hk.lt;simp[Value.ownBlock] at e2;omega⟩
       ·obtain ⟨HW,HC,v66,v70,v75,ha,h0,h4,h9⟩:=hI;rw[ha] at hG;clear ha a1;have u4:=dn_un hu;have t0:dn D 0=true:=hd ⟨0,.data⟩ (by simp) (by decide);obtain ⟨⟨y,rfl⟩,o⟩:=h0.o t0 u4;have HO:=ax o;have HU:=ax (And.intro u4 t0);clear u4 t0 o h0 hd;refine hG ?_;clear hG;(try simp only[zz]);rw[if_pos (by simp[Region.wanted])];refine wp_appAL (base:=w8.heap.size) (xs:=[]) (ys:=tl) _ _ rfl rfl HO.o rfl (Rd.tailA (HXV.o.bz HW.o)) (by simp;omega) HW.o.size ?_;intro A' c' w2 o2 hg2 hB2;simp only[List.nil_append] at o2 ⊢;have hB3:Below w8.heap.size w8 w2:=HW.o.trans hB2;have hcc:=(HXV.o.bz hB3).cl (k:=0) (by simp);simp only[Nat.zero_mul,Nat.add_zero,Nat.zero_add,List.getElem_cons_zero] at hcc;refine hK.out _ _ ⟨(kx.nz hB3).cell,hcc⟩ ⟨hB3,fun _=>?_,.slice (some ⟨y,0,none⟩) 0 0,.slice A' tl.length c',v75,rfl,fun _ h=>?_,fun _=>⟨⟨A',c',rfl⟩,o2⟩,fun h=>?_⟩
        ·rw[dn_ne (by decide)];exact HU.o.2
        ·rw[dn_self hu] at h;cases h
        ·rw[dn_ne (by decide)] at h;obtain ⟨z,e,hk,hne⟩:=h9.o h;exact ⟨z,e,hk.grown hg2 (fun e2=>hne HU.o.2 HU.o.1 e2.symm),fun _ h2=>by rw[dn_self hu] at h2;cases h2⟩
       ·obtain ⟨HW,HC,v66,v70,v75,ha,h0,h4,h9⟩:=hI;rw[ha] at hG;clear ha a1;refine hG ?_;clear hG hd;(try simp only[zz]);go_simp;have hB2:Below w8.heap.size w8 (w'.alloc (.cells #[.int .i64 x0.kind,.int .i64 x0.a,.int .i64 x0.b] tA)):=HW.o.alloc HW.o.size _;have hBw:Below w'.heap.size w' (w'.alloc (.cells #[.int .i64 x0.kind,.int .i64 x0.a,.int .i64 x0.b] tA)):=bbox (Below.refl _ _) _;have hcc:=(HXV.o.bz hB2).cl (k:=0) (by simp);simp only[Nat.zero_mul,Nat.add_zero,Nat.zero_add,List.getElem_cons_zero] at hcc;refine hK.out _ _ ⟨(kx.nz hB2).cell,hcc⟩ ⟨hB2,fun h=>?_,v66,v70,.slice (some ⟨w'.heap.size,0,none⟩) 1 1,rfl,fun h h'=>?_,fun h=>?_,fun _=>⟨_,rfl,Blk.new _ _ _,fun h h' e=>?_⟩⟩
        ·rw[dn_ne (by decide)] at h ⊢;exact HC.o h
        ·rw[dn_ne (by decide)] at h h';exact ⟨(h0.o h h').1,(h0.o h h').2.bz hBw⟩
        ·rw[dn_ne (by decide)] at h;exact ⟨(h4.o h).1,(h4.o h).2.bz hBw⟩
        ·rw[dn_ne (by decide)] at h h';have:=((h0.o h h').2.1.lt _ e).2;omega
      case fin=>
       rintro a1 w9 aH ⟨HW,-,v66,v70,v75,rfl,-,h4,h9⟩;obtain ⟨⟨A9,c9,rfl⟩,o9⟩:=h4.o (by decide);obtain ⟨y9,rfl,ky9,-⟩:=h9.o (by decide);have HO9:=ax o9;clear o9 h4 h9;(try simp only[zz]);refine rdc 10 rfl fun K hK=>?_;skip;(refine stepAL (base:=w8.heap.size) (xs:=tl) (ys:=[x0]) rfl _ _ rfl rfl HO9.o rfl (AtomsV.one (f:=x0) ky9) (by simp;omega) HW.o.size ?_;intro A10 c10 w10 o10 hg10 hB10;have hB11:Below w8.heap.size w8 w10:=HW.o.trans hB10;have hcc:=(HXV.o.bz hB11).cl (k:=0) (by simp);simp only[Nat.zero_mul,Nat.add_zero,Nat.zero_add,List.getElem_cons_zero] at hcc);refine hK.out _ _ (⟨(kx.nz hB11).cell,hcc⟩) ?_;clear aH hK K;intro aH;(try simp only[zz]);rw[List.length_append,List.length_singleton] at o10;have HO10:=ax o10;have hsz8:=HF.o.size;have kx10:=kx.nz hB11;have k110:=k1.nz hB11;have HF10:=ax (HF.o.go hB11);have HR10:=ax (HR.o.bz hB11);have HFO10:=ax (HFO.o.bz hB11);clear o10 hg10 hB10 HW HO9 ky9 HO2 kx k1 HF HR HFO qk1 rk1 lk1 qkx rkx lkx z0 z1 z2;(replace qk110:=k110.cell;replace rk110:=k110.frozen;replace lk110:=k110.lt;replace qkx10:=kx10.z);refine tk2 11 rfl aH (h:=?_);(try simp only[zz]);refine rdc 12 rfl fun K hK=>?_;go_simp;refine hK.out _ _ (⟨kx10.cell,hcc⟩) (fun aH=>?_);clear hK K;refine wpAnyH_done (by kernel_rfl) ?_ _;unfold lastQ;go_simp;refine NoPanic.normal ?_;have hne:X≠w.heap.size+1:=by omega
       have kx11:=kx10.set_ 1 (.slice A10 (tl.length+1) c10);have k111:=k110.far (p:=⟨X,1,none⟩) (by simp only;omega) (.slice A10 (tl.length+1) c10);have HO11:=ax (HO10.o.setT kx10 (by decide) 1 (.slice A10 (tl.length+1) c10));have HFO11:=ax (HFO10.o.setT kx10 (by decide) 1 (.slice A10 (tl.length+1) c10));have HR11:=ax (HR10.o.set_ (q:=⟨X,1,none⟩) (by simp only;omega) (.slice A10 (tl.length+1) c10));have HF11:=ax (HF10.o.set_ (p:=⟨X,1,none⟩) (Or.inr (by simp only;omega)) (.slice A10 (tl.length+1) c10));clear hcc aH;(go_wp2_with fail)
       first
       | (refine bodyPost_ret (v:=.agg #[.slice (some ⟨gf,0,none⟩) ([]:List Fct).length 0,.slice A10 (tl.length+1) c10]) (by simp[results,Tryz.results101,go_sem,qk110]) rfl ⟨_,rfl,⟨([]:List Fct),tl++[x0]⟩,⟨(some ⟨gf,0,none⟩),0,A10,c10,by simp,?_,?_⟩,hflN,by simp;omega,q,?_,by omega,?_⟩)
       | (refine bodyPost_ret (v:=.agg #[.slice (some ⟨gf,0,none⟩) ([]:List Fct).length 0,.slice A10 (tl.length+1) c10]) (by simp[results,Tryz.results101,go_sem,qk110]) rfl ⟨_,⟨([]:List Fct),tl++[x0]⟩,q,rfl,⟨(some ⟨gf,0,none⟩),0,A10,c10,by simp,?_,?_⟩,hflN,by simp;omega,?_,by omega,?_⟩)
       ·exact HREL.o.rj ((HFO11.o.setT k111 (by decide) 0 _).setT (k111.set_ 0 _) (by decide) 1 _)
       ·exact (((((HO11.o.bq (base':=w.heap.size) (by omega)).setT k111 (by decide) 0 _).setT (k111.set_ 0 _) (by decide) 1 _)).reads2)
       ·exact (HR11.o.set_ (q:=⟨w.heap.size+1,0,none⟩) (by simp only;omega) _).set_ (q:=⟨w.heap.size+1,1,none⟩) (by simp only;omega) _
       ·exact (HF11.o.set_ (p:=⟨w.heap.size+1,0,none⟩) (Or.inr (by simp only;omega)) _).set_ (p:=⟨w.heap.size+1,1,none⟩) (Or.inr (by simp only;omega)) _
     have hm8b:((m8:Int) == 0)=false:=by simpa using hm80
     clear hm80 hm8;have hne:X≠w.heap.size+1:=by omega
     go_wp2_with fail
     first
     | (refine bodyPost_ret (v:=.agg #[.slice (some ⟨gf,0,none⟩) ([]:List Fct).length 0,.slice G xs.length d1]) (by simp[results,Tryz.results101,go_sem,qk1]) rfl ⟨_,rfl,⟨([]:List Fct),xs⟩,⟨(some ⟨gf,0,none⟩),0,G,d1,rfl,?_,?_⟩,hflN,hxl,q,?_,by omega,?_⟩)
     | (refine bodyPost_ret (v:=.agg #[.slice (some ⟨gf,0,none⟩) ([]:List Fct).length 0,.slice G xs.length d1]) (by simp[results,Tryz.results101,go_sem,qk1]) rfl ⟨_,⟨([]:List Fct),xs⟩,q,rfl,⟨(some ⟨gf,0,none⟩),0,G,d1,rfl,?_,?_⟩,hflN,hxl,?_,by omega,?_⟩)
     ·exact HREL.o.rj ((HFO.o.setT k1 (by decide) 0 _).setT (k1.set_ 0 _) (by decide) 1 _)
     ·exact ((((HO2.o.setT k1 (by decide) 0 _).setT (k1.set_ 0 _) (by decide) 1 _)).readsI).2
     ·exact (HR.o.set_ (q:=⟨w.heap.size+1,0,none⟩) (by simp only;omega) _).set_ (q:=⟨w.heap.size+1,1,none⟩) (by simp only;omega) _
     ·exact (HF.o.set_ (p:=⟨w.heap.size+1,0,none⟩) (Or.inr (by simp only;omega)) _).set_ (p:=⟨w.heap.size+1,1,none⟩) (Or.inr (by simp only;omega)) _
    have he2:1<e1:=by simp at hcapF;omega
    have he3:¬e1 - 1=0:=by omega
    clear hcapF;have hflN:ft0.length≤20:=by (first|(simp;done)|(simp at hfl ⊢;omega))
    have hXw1:w.heap.size+1≠X:=by omega
    have HREL:aJ (FRel (some ⟨gf,0,none⟩) (f :: ft0) (some ⟨gf,3,none⟩) ft0):=Or.inr (Or.inl ⟨gf,f,rfl,rfl,rfl⟩);have kx0:=kx;replace HFO:=ax (HFO.o.setT kx0 (by decide) 0 (.slice (some ⟨gf,3,none⟩) ft0.length (e1 - 1)));replace HO2:=ax (HO2.o.setT kx0 (by decide) 0 (.slice (some ⟨gf,3,none⟩) ft0.length (e1 - 1)));replace HR:=ax (HR.o.set_ (q:=⟨X,0,none⟩) (by simp only;omega) (.slice (some ⟨gf,3,none⟩) ft0.length (e1 - 1)));replace HF:=ax (HF.o.set_ (p:=⟨X,0,none⟩) (Or.inr (by simp only;omega)) (.slice (some ⟨gf,3,none⟩) ft0.length (e1 - 1)));replace k1:=k1.far (p:=⟨X,0,none⟩) (by simp only;omega) (.slice (some ⟨gf,3,none⟩) ft0.length (e1 - 1));replace kx:Blk (w5.setCell ⟨X,0,none⟩ (.slice (some ⟨gf,3,none⟩) ft0.length (e1 - 1))) X tAs #[(.slice (some ⟨gf,3,none⟩) ft0.length (e1 - 1)),.slice G xs.length d1]:=by simpa using kx0.set_ 0 (.slice (some ⟨gf,3,none⟩) ft0.length (e1 - 1))
    clear kx0;by_cases hx0:xs.length=0
    ·have hx0i:¬(0:Int)<(xs.length:Int):=by omega
     have hx1i:¬(1:Int)<(xs.length:Int):=by omega
     clear hx0;have hne:X≠w.heap.size+1:=by omega
     go_wp2_with fail
     first
     | (refine bodyPost_ret (v:=.agg #[.slice (some ⟨gf,3,none⟩) ft0.length (e1 - 1),.slice G xs.length d1]) (by simp[results,Tryz.results101,go_sem,qk1]) rfl ⟨_,rfl,⟨ft0,xs⟩,⟨(some ⟨gf,3,none⟩),(e1 - 1),G,d1,rfl,?_,?_⟩,hflN,hxl,q,?_,by omega,?_⟩)
     | (refine bodyPost_ret (v:=.agg #[.slice (some ⟨gf,3,none⟩) ft0.length (e1 - 1),.slice G xs.length d1]) (by simp[results,Tryz.results101,go_sem,qk1]) rfl ⟨_,⟨ft0,xs⟩,q,rfl,⟨(some ⟨gf,3,none⟩),(e1 - 1),G,d1,rfl,?_,?_⟩,hflN,hxl,?_,by omega,?_⟩)
     ·exact HREL.o.rj ((HFO.o.setT k1 (by decide) 0 _).setT (k1.set_ 0 _) (by decide) 1 _)
     ·exact ((((HO2.o.setT k1 (by decide) 0 _).setT (k1.set_ 0 _) (by decide) 1 _)).readsI).2
     ·exact (HR.o.set_ (q:=⟨w.heap.size+1,0,none⟩) (by simp only;omega) _).set_ (q:=⟨w.heap.size+1,1,none⟩) (by simp only;omega) _
     ·exact (HF.o.set_ (p:=⟨w.heap.size+1,0,none⟩) (Or.inr (by simp only;omega)) _).set_ (p:=⟨w.heap.size+1,1,none⟩) (Or.inr (by simp only;omega)) _
    have hx0i:(0:Int)<(xs.length:Int):=by omega
    (go_wp2_with fail);refine (c_pick g q 3 _ HR.o (by omega)).mono ?_;rintro e w6 ⟨m6,rfl,hm6,hR,hF⟩;replace k1:=k1.fr hF (by omega);replace kx:=kx.fr hF (by omega);replace HF:=ax (HF.o.trans hF);replace HFO:=ax (HFO.o.fr hF hlt);replace HO2:=ax (HO2.o.fr hF hlt);replace HR:=ax hR;replace hq:q+1≤p+3:=by omega
    generalize q+1=q at HR hq;clear hR hF;(replace qk1:=k1.cell;replace rk1:=k1.frozen;replace lk1:=k1.lt;replace qkx:=kx.cell;replace rkx:=kx.frozen;replace lkx:=kx.lt);by_cases hm60:(m6:Int)=0
    ·have hm6b:((m6:Int) == 0)=true:=by simpa using hm60
     clear hm60 hm6;(go_wp2_with fail);refine (c_pick g q (xs.length:Int) _ HR.o (by omega)).mono ?_;rintro e w7 ⟨m7,rfl,hm7,hR,hF⟩;replace k1:=k1.fr hF (by omega);replace kx:=kx.fr hF (by omega);replace HF:=ax (HF.o.trans hF);replace HFO:=ax (HFO.o.fr hF hlt);replace HO2:=ax (HO2.o.fr hF hlt);replace HR:=ax hR;replace hq:q+1≤p+4:=by omega
     generalize q+1=q at HR hq;clear hR hF;(replace qk1:=k1.cell;replace rk1:=k1.frozen;replace lk1:=k1.lt;replace qkx:=kx.cell;replace rkx:=kx.frozen;replace lkx:=kx.lt);have hm7l:m7<xs.length:=by omega
     obtain ⟨ga,cur,-,rfl,hga,kg,hsz3,hc0,hc1,hc2,hset⟩:=HO2.o.open_ (k:=m7) hm7l;have qg:=(kg.cell (m7 * 3)).trans hc0;have rg:=kg.frozen;have lg:=kg.lt;obtain ⟨ok,hok⟩:∃ ok,ok=(xs[m7]'hm7l).kind:=⟨_,rfl⟩;rw[←hok] at qg;have hm7i:(m7:Int)<(xs.length:Int):=by omega
     have hxg:X≠ga:=kx.ne_ kg (by decide);have h1g:w.heap.size+1≠ga:=k1.ne_ kg (by decide);clear hc0 hc1 hc2 hok hsz3 hm7;obtain ⟨ys,hys⟩:∃ ys,ys=xs.set m7 ⟨2,(xs[m7]'hm7l).a,(xs[m7]'hm7l).b⟩:=⟨_,rfl⟩;have hyl:ys.length=xs.length:=by rw[hys];simp
     have E0:=hset (m7 * 3) (.int .i64 2) ys (by rw[hys];exact encA_setK hm7l 2) hyl;rw[←hyl] at E0 kx hm7i hxl hx0i;have hga0:=kg;clear hset HO2 hys;have HO2:=ax E0;clear E0;replace HFO:=ax (HFO.o.setT kg (by decide) (m7 * 3) (.int .i64 2));replace HR:=ax (HR.o.set_ (q:=⟨ga,m7 * 3,none⟩) (by simp only;omega) (.int .i64 2));replace HF:=ax (HF.o.set_ (p:=⟨ga,m7 * 3,none⟩) (Or.inr hga) (.int .i64 2));(replace qk1:=k1.cell;replace rk1:=k1.frozen;replace lk1:=k1.lt;replace qkx:=kx.cell;replace rkx:=kx.frozen;replace lkx:=kx.lt);have qk17:=qk1;have qkx7:=qkx;have lk17:=lk1;have lkx7:=lkx;have rk17:=rk1;have rkx7:=rkx;replace k1:=k1.far (p:=⟨ga,m7 * 3,none⟩) h1g (.int .i64 2);replace kx:=kx.far (p:=⟨ga,m7 * 3,none⟩) hxg (.int .i64 2);have hgx:ga≠X:=fun e=>hxg e.symm;have hg1:ga≠w.heap.size+1:=fun e=>h1g e.symm;clear hyl hx0 hm7l;by_cases hx1:ys.length≤1
     ·have hx1i:¬(1:Int)<(ys.length:Int):=by omega
      have hne:X≠w.heap.size+1:=by omega
      go_wp2_with fail
      first
      | (refine bodyPost_ret (v:=.agg #[.slice (some ⟨gf,3,none⟩) ft0.length (e1 - 1),.slice (some ⟨ga,0,none⟩) ys.length d1]) (by simp[results,Tryz.results101,go_sem,qk17,lk17,h1g,hg1]) rfl ⟨_,rfl,⟨ft0,ys⟩,⟨(some ⟨gf,3,none⟩),(e1 - 1),(some ⟨ga,0,none⟩),d1,rfl,?_,?_⟩,hflN,hxl,q,?_,by omega,?_⟩)
      | (refine bodyPost_ret (v:=.agg #[.slice (some ⟨gf,3,none⟩) ft0.length (e1 - 1),.slice (some ⟨ga,0,none⟩) ys.length d1]) (by simp[results,Tryz.results101,go_sem,qk17,lk17,h1g,hg1]) rfl ⟨_,⟨ft0,ys⟩,q,rfl,⟨(some ⟨gf,3,none⟩),(e1 - 1),(some ⟨ga,0,none⟩),d1,rfl,?_,?_⟩,hflN,hxl,?_,by omega,?_⟩)
      ·exact HREL.o.rj ((HFO.o.setT k1 (by decide) 0 _).setT (k1.set_ 0 _) (by decide) 1 _)
      ·exact ((((HO2.o.setT k1 (by decide) 0 _).setT (k1.set_ 0 _) (by decide) 1 _)).readsI).2
      ·exact (HR.o.set_ (q:=⟨w.heap.size+1,0,none⟩) (by simp only;omega) _).set_ (q:=⟨w.heap.size+1,1,none⟩) (by simp only;omega) _
      ·exact (HF.o.set_ (p:=⟨w.heap.size+1,0,none⟩) (Or.inr (by simp only;omega)) _).set_ (p:=⟨w.heap.size+1,1,none⟩) (Or.inr (by simp only;omega)) _
     have hx1i:(1:Int)<(ys.length:Int):=by omega
     (go_wp2_with fail);refine (c_pick g q 3 _ HR.o (by omega)).mono ?_;rintro e w8 ⟨m8,rfl,hm8,hR,hF⟩;replace k1:=k1.fr hF (by omega);replace kx:=kx.fr hF (by omega);replace HF:=ax (HF.o.trans hF);replace HFO:=ax (HFO.o.fr hF hlt);replace HO2:=ax (HO2.o.fr hF hlt);replace HR:=ax hR;replace hq:q+1≤p+5:=by omega
     generalize q+1=q at HR hq;clear hR hF;(replace qk1:=k1.cell;replace rk1:=k1.frozen;replace lk1:=k1.lt;replace qkx:=kx.cell;replace rkx:=kx.frozen;replace lkx:=kx.lt);by_cases hm80:(m8:Int)=0
     ·have hm8b:((m8:Int) == 0)=true:=by simpa using hm80
      clear hm80 hm8
      obtain ⟨x0,tl,rfl⟩:∃ x0 tl,ys=x0 :: tl:=by
       cases ys with
       | nil=>simp at hx1i
       | cons x0 tl=>exact ⟨x0,tl,rfl⟩
      have hcap:(x0 :: tl).length≤d1:=AtomsO.capL HO2.o;have hd1:1<d1:=by simp at hcap hx1i;omega
      have hd2:¬d1 - 1=0:=by omega
      have hd3:d1≠1:=by omega
      have hti:(0:Int)<(tl.length:Int)+1:=by omega
      have hti1:(1:Int)≤(tl.length:Int)+1:=by omega
      have htl:tl.length≤19:=by simp at hxl;omega
      have HXV:=ax (HO2.o.readsI).2;have hc3:=HXV.o.cl (k:=0) (by simp);obtain ⟨z0,z1,z2⟩:=hc3;simp only[Nat.zero_mul,Nat.add_zero,Nat.zero_add,List.getElem_cons_zero] at z0 z1 z2;clear hcap;(go_wp2_with fail);refine wp_region_noPanic ?_;refine wp_region_last' (S:=(fun w'=>(∀ i,w'.cell? ⟨X,i,none⟩=#[.slice (some ⟨gf,3,none⟩) ft0.length (e1 - 1),.slice (some ⟨ga,0,none⟩) (x0 :: tl).length d1][i]?)∧w'.cell? ⟨ga,0,none⟩=some (.int .i64 x0.kind)∧w'.cell? ⟨ga,1,none⟩=some (.int .i64 x0.a)∧w'.cell? ⟨ga,2,none⟩=some (.int .i64 x0.b))) (by simp) (by kernel_rfl) (by kernel_rfl) (⟨Blk.cell blks,z0,z1,z2⟩) (fun aH=>?_);simp only[List.dropLast,List.getLast,nopOf,List.cons_append,List.nil_append,List.length_cons,List.length_nil,Nat.zero_add,Nat.reduceAdd];refine tk2 1 rfl aH (h:=tk2 2 rfl aH (h:=tk2 3 rfl aH (h:=?_)));(try simp only[zz]);refine tk2 5 rfl aH (h:=tk2 6 rfl aH (h:=tk2 7 rfl aH (h:=?_)));(try simp only[zz]);refine tk2 8 rfl aH (h:=?_);(try simp only[zz])
      refine wpAnyH_par [0,4,9] #[true,true,true,true,true,true,true,true,true,true,false,false,false] 3 (by kernel_rfl) aH
       (fun a0 D a1 w'=>aJ (Below w8.heap.size w8 w')∧aJ (dn D 4=true→dn D 0=true)∧
        ∃ v66 v70 v75,a1=((a0.put (some 66) v66).put (some 70) v70).put (some 75) v75∧
         aJ (dn D 0=true→dn D 4=false→(∃ y,v66=.slice (some ⟨y,0,none⟩) 0 0)∧AtomsO w' w8.heap.size v66 [])∧
         aJ (dn D 4=true→(∃ A c,v70=.slice A tl.length c)∧AtomsO w' w8.heap.size v70 tl)∧
         aJ (dn D 9=true→∃ y,v75=.slice (some ⟨y,0,none⟩) 1 1∧Blk w' y tA #[.int .i64 x0.kind,.int .i64 x0.a,.int .i64 x0.b]∧(dn D 0=true→dn D 4=false→v66.ownBlock≠some y))) ?start ?steps ?fin
      case start=>exact ⟨(Below.refl _ w8).drew,fun h=>absurd h (by decide),undef,undef,undef,rfl,fun h=>absurd h (by decide),fun h=>absurd h (by decide),fun h=>absurd h (by decide)⟩
      case steps=>
       refine ParSteps.cons rfl (fun D a1 w' hu hd hI hS K' hK G' hG=>?_) (ParSteps.cons rfl (fun D a1 w' hu hd hI hS K' hK G' hG=>?_) (ParSteps.cons rfl (fun D a1 w' hu hd hI hS K' hK G' hG=>?_) ParSteps.nil))
       ·obtain ⟨HW,HC,v66,v70,v75,ha,h0,h4,h9⟩:=hI;rw[ha] at hG;clear ha a1;have u0:=dn_un hu;have u4:dn D 4=false:=by cases e:dn D 4;rfl;have:=HC.o e;rw[u0] at this;cases this
        have HU:=ax u4;clear u0 u4;refine hG ?_;clear hG hd;(try simp only[zz]);go_simp;have hB2:Below w8.heap.size w8 (w'.alloc (.cells #[] tA)):=HW.o.alloc HW.o.size _;have hBw:Below w'.heap.size w' (w'.alloc (.cells #[] tA)):=bbox (Below.refl _ _) _;have hcc:=(HXV.o.bz hB2).cl (k:=0) (by simp);simp only[Nat.zero_mul,Nat.add_zero,Nat.zero_add,List.getElem_cons_zero] at hcc;refine hK.out _ _ ⟨(kx.nz hB2).cell,hcc⟩ ⟨hB2,fun _=>dn_self hu,.slice (some ⟨w'.heap.size,0,none⟩) 0 0,v70,v75,rfl,fun _ _=>⟨⟨_,rfl⟩,(AtomsO.empty w').bq HW.o.size⟩,fun h=>?_,fun h=>?_⟩
        ·rw[dn_ne (by decide)] at h;rw[HU.o] at h;cases h
        ·rw[dn_ne (by decide)] at h;obtain ⟨y,e,hk,-⟩:=h9.o h;exact ⟨y,e,hk.alloc _,fun _ _ e2=>by have:=hk.lt;simp[Value.ownBlock] at e2;omega⟩
       ·obtain ⟨HW,HC,v66,v70,v75,ha,h0,h4,h9⟩:=hI;rw[ha] at hG;clear ha a1;have u4:=dn_un hu;have t0:dn D 0=true:=hd ⟨0,.data⟩ (by simp) (by decide);obtain ⟨⟨y,rfl⟩,o⟩:=h0.o t0 u4;have HO:=ax o;have HU:=ax (And.intro u4 t0);clear u4 t0 o h0 hd;refine hG ?_;clear hG;(try simp only[zz]);rw[if_pos (by simp[Region.wanted])];refine wp_appAL (base:=w8.heap.size) (xs:=[]) (ys:=tl) _ _ rfl rfl HO.o rfl (Rd.tailA (HXV.o.bz HW.o)) (by simp;omega) HW.o.size ?_;intro A' c' w2 o2 hg2 hB2;simp only[List.nil_append] at o2 ⊢;have hB3:Below w8.heap.size w8 w2:=HW.o.trans hB2;have hcc:=(HXV.o.bz hB3).cl (k:=0) (by simp);simp only[Nat.zero_mul,Nat.add_zero,Nat.zero_add,List.getElem_cons_zero] at hcc;refine hK.out _ _ ⟨(kx.nz hB3).cell,hcc⟩ ⟨hB3,fun _=>?_,.slice (some ⟨y,0,none⟩) 0 0,.slice A' tl.length c',v75,rfl,fun _ h=>?_,fun _=>⟨⟨A',c',rfl⟩,o2⟩,fun h=>?_⟩
        ·rw[dn_ne (by decide)];exact HU.o.2
        ·rw[dn_self hu] at h;cases h
        ·rw[dn_ne (by decide)] at h;obtain ⟨z,e,hk,hne⟩:=h9.o h;exact ⟨z,e,hk.grown hg2 (fun e2=>hne HU.o.2 HU.o.1 e2.symm),fun _ h2=>by rw[dn_self hu] at h2;cases h2⟩
       ·obtain ⟨HW,HC,v66,v70,v75,ha,h0,h4,h9⟩:=hI;rw[ha] at hG;clear ha a1;refine hG ?_;clear hG hd;(try simp only[zz]);go_simp;have hB2:Below w8.heap.size w8 (w'.alloc (.cells #[.int .i64 x0.kind,.int .i64 x0.a,.int .i64 x0.b] tA)):=HW.o.alloc HW.o.size _;have hBw:Below w'.heap.size w' (w'.alloc (.cells #[.int .i64 x0.kind,.int .i64 x0.a,.int .i64 x0.b] tA)):=bbox (Below.refl _ _) _;have hcc:=(HXV.o.bz hB2).cl (k:=0) (by simp);simp only[Nat.zero_mul,Nat.add_zero,Nat.zero_add,List.getElem_cons_zero] at hcc;refine hK.out _ _ ⟨(kx.nz hB2).cell,hcc⟩ ⟨hB2,fun h=>?_,v66,v70,.slice (some ⟨w'.heap.size,0,none⟩) 1 1,rfl,fun h h'=>?_,fun h=>?_,fun _=>⟨_,rfl,Blk.new _ _ _,fun h h' e=>?_⟩⟩
        ·rw[dn_ne (by decide)] at h ⊢;exact HC.o h
        ·rw[dn_ne (by decide)] at h h';exact ⟨(h0.o h h').1,(h0.o h h').2.bz hBw⟩
        ·rw[dn_ne (by decide)] at h;exact ⟨(h4.o h).1,(h4.o h).2.bz hBw⟩
        ·rw[dn_ne (by decide)] at h h';have:=((h0.o h h').2.1.lt _ e).2;omega
      case fin=>
       rintro a1 w9 aH ⟨HW,-,v66,v70,v75,rfl,-,h4,h9⟩;obtain ⟨⟨A9,c9,rfl⟩,o9⟩:=h4.o (by decide);obtain ⟨y9,rfl,ky9,-⟩:=h9.o (by decide);have HO9:=ax o9;clear o9 h4 h9;(try simp only[zz]);refine rdc 10 rfl fun K hK=>?_;skip;(refine stepAL (base:=w8.heap.size) (xs:=tl) (ys:=[x0]) rfl _ _ rfl rfl HO9.o rfl (AtomsV.one (f:=x0) ky9) (by simp;omega) HW.o.size ?_;intro A10 c10 w10 o10 hg10 hB10;have hB11:Below w8.heap.size w8 w10:=HW.o.trans hB10;have hcc:=(HXV.o.bz hB11).cl (k:=0) (by simp);simp only[Nat.zero_mul,Nat.add_zero,Nat.zero_add,List.getElem_cons_zero] at hcc);refine hK.out _ _ (⟨(kx.nz hB11).cell,hcc⟩) ?_;clear aH hK K;intro aH;(try simp only[zz]);rw[List.length_append,List.length_singleton] at o10;have HO10:=ax o10;have hsz8:=HF.o.size;have kx10:=kx.nz hB11;have k110:=k1.nz hB11;have HF10:=ax (HF.o.go hB11);have HR10:=ax (HR.o.bz hB11);have HFO10:=ax (HFO.o.bz hB11);clear o10 hg10 hB10 HW HO9 ky9 HO2 kx k1 HF HR HFO qk1 rk1 lk1 qkx rkx lkx z0 z1 z2;(replace qk110:=k110.cell;replace rk110:=k110.frozen;replace lk110:=k110.lt;replace qkx10:=kx10.z);refine tk2 11 rfl aH (h:=?_);(try simp only[zz]);refine rdc 12 rfl fun K hK=>?_;go_simp;refine hK.out _ _ (⟨kx10.cell,hcc⟩) (fun aH=>?_);clear hK K;refine wpAnyH_done (by kernel_rfl) ?_ _;unfold lastQ;go_simp;refine NoPanic.normal ?_;have hne:X≠w.heap.size+1:=by omega
       have kx11:=kx10.set_ 1 (.slice A10 (tl.length+1) c10);have k111:=k110.far (p:=⟨X,1,none⟩) (by simp only;omega) (.slice A10 (tl.length+1) c10);have HO11:=ax (HO10.o.setT kx10 (by decide) 1 (.slice A10 (tl.length+1) c10));have HFO11:=ax (HFO10.o.setT kx10 (by decide) 1 (.slice A10 (tl.length+1) c10));have HR11:=ax (HR10.o.set_ (q:=⟨X,1,none⟩) (by simp only;omega) (.slice A10 (tl.length+1) c10));have HF11:=ax (HF10.o.set_ (p:=⟨X,1,none⟩) (Or.inr (by simp only;omega)) (.slice A10 (tl.length+1) c10));clear hcc aH;(go_wp2_with fail)
       first
       | (refine bodyPost_ret (v:=.agg #[.slice (some ⟨gf,3,none⟩) ft0.length (e1 - 1),.slice A10 (tl.length+1) c10]) (by simp[results,Tryz.results101,go_sem,qk110]) rfl ⟨_,rfl,⟨ft0,tl++[x0]⟩,⟨(some ⟨gf,3,none⟩),(e1 - 1),A10,c10,by simp,?_,?_⟩,hflN,by simp;omega,q,?_,by omega,?_⟩)
       | (refine bodyPost_ret (v:=.agg #[.slice (some ⟨gf,3,none⟩) ft0.length (e1 - 1),.slice A10 (tl.length+1) c10]) (by simp[results,Tryz.results101,go_sem,qk110]) rfl ⟨_,⟨ft0,tl++[x0]⟩,q,rfl,⟨(some ⟨gf,3,none⟩),(e1 - 1),A10,c10,by simp,?_,?_⟩,hflN,by simp;omega,?_,by omega,?_⟩)
       ·exact HREL.o.rj ((HFO11.o.setT k111 (by decide) 0 _).setT (k111.set_ 0 _) (by decide) 1 _)
       ·exact (((((HO11.o.bq (base':=w.heap.size) (by omega)).setT k111 (by decide) 0 _).setT (k111.set_ 0 _) (by decide) 1 _)).reads2)
       ·exact (HR11.o.set_ (q:=⟨w.heap.size+1,0,none⟩) (by simp only;omega) _).set_ (q:=⟨w.heap.size+1,1,none⟩) (by simp only;omega) _
       ·exact (HF11.o.set_ (p:=⟨w.heap.size+1,0,none⟩) (Or.inr (by simp only;omega)) _).set_ (p:=⟨w.heap.size+1,1,none⟩) (Or.inr (by simp only;omega)) _
     have hm8b:((m8:Int) == 0)=false:=by simpa using hm80
     clear hm80 hm8;have hne:X≠w.heap.size+1:=by omega
     go_wp2_with fail
     first
     | (refine bodyPost_ret (v:=.agg #[.slice (some ⟨gf,3,none⟩) ft0.length (e1 - 1),.slice (some ⟨ga,0,none⟩) ys.length d1]) (by simp[results,Tryz.results101,go_sem,qk1]) rfl ⟨_,rfl,⟨ft0,ys⟩,⟨(some ⟨gf,3,none⟩),(e1 - 1),(some ⟨ga,0,none⟩),d1,rfl,?_,?_⟩,hflN,hxl,q,?_,by omega,?_⟩)
     | (refine bodyPost_ret (v:=.agg #[.slice (some ⟨gf,3,none⟩) ft0.length (e1 - 1),.slice (some ⟨ga,0,none⟩) ys.length d1]) (by simp[results,Tryz.results101,go_sem,qk1]) rfl ⟨_,⟨ft0,ys⟩,q,rfl,⟨(some ⟨gf,3,none⟩),(e1 - 1),(some ⟨ga,0,none⟩),d1,rfl,?_,?_⟩,hflN,hxl,?_,by omega,?_⟩)
     ·exact HREL.o.rj ((HFO.o.setT k1 (by decide) 0 _).setT (k1.set_ 0 _) (by decide) 1 _)
     ·exact ((((HO2.o.setT k1 (by decide) 0 _).setT (k1.set_ 0 _) (by decide) 1 _)).readsI).2
     ·exact (HR.o.set_ (q:=⟨w.heap.size+1,0,none⟩) (by simp only;omega) _).set_ (q:=⟨w.heap.size+1,1,none⟩) (by simp only;omega) _
     ·exact (HF.o.set_ (p:=⟨w.heap.size+1,0,none⟩) (Or.inr (by simp only;omega)) _).set_ (p:=⟨w.heap.size+1,1,none⟩) (Or.inr (by simp only;omega)) _
    have hm6b:((m6:Int) == 0)=false:=by simpa using hm60
    clear hm60 hm6;by_cases hx1:xs.length≤1
    ·have hx1i:¬(1:Int)<(xs.length:Int):=by omega
     have hne:X≠w.heap.size+1:=by omega
     go_wp2_with fail
     first
     | (refine bodyPost_ret (v:=.agg #[.slice (some ⟨gf,3,none⟩) ft0.length (e1 - 1),.slice G xs.length d1]) (by simp[results,Tryz.results101,go_sem,qk1]) rfl ⟨_,rfl,⟨ft0,xs⟩,⟨(some ⟨gf,3,none⟩),(e1 - 1),G,d1,rfl,?_,?_⟩,hflN,hxl,q,?_,by omega,?_⟩)
     | (refine bodyPost_ret (v:=.agg #[.slice (some ⟨gf,3,none⟩) ft0.length (e1 - 1),.slice G xs.length d1]) (by simp[results,Tryz.results101,go_sem,qk1]) rfl ⟨_,⟨ft0,xs⟩,q,rfl,⟨(some ⟨gf,3,none⟩),(e1 - 1),G,d1,rfl,?_,?_⟩,hflN,hxl,?_,by omega,?_⟩)
     ·exact HREL.o.rj ((HFO.o.setT k1 (by decide) 0 _).setT (k1.set_ 0 _) (by decide) 1 _)
     ·exact ((((HO2.o.setT k1 (by decide) 0 _).setT (k1.set_ 0 _) (by decide) 1 _)).readsI).2
     ·exact (HR.o.set_ (q:=⟨w.heap.size+1,0,none⟩) (by simp only;omega) _).set_ (q:=⟨w.heap.size+1,1,none⟩) (by simp only;omega) _
     ·exact (HF.o.set_ (p:=⟨w.heap.size+1,0,none⟩) (Or.inr (by simp only;omega)) _).set_ (p:=⟨w.heap.size+1,1,none⟩) (Or.inr (by simp only;omega)) _
    have hx1i:(1:Int)<(xs.length:Int):=by omega
    (go_wp2_with fail);refine (c_pick g q 3 _ HR.o (by omega)).mono ?_;rintro e w8 ⟨m8,rfl,hm8,hR,hF⟩;replace k1:=k1.fr hF (by omega);replace kx:=kx.fr hF (by omega);replace HF:=ax (HF.o.trans hF);replace HFO:=ax (HFO.o.fr hF hlt);replace HO2:=ax (HO2.o.fr hF hlt);replace HR:=ax hR;replace hq:q+1≤p+4:=by omega
    generalize q+1=q at HR hq;clear hR hF;(replace qk1:=k1.cell;replace rk1:=k1.frozen;replace lk1:=k1.lt;replace qkx:=kx.cell;replace rkx:=kx.frozen;replace lkx:=kx.lt);by_cases hm80:(m8:Int)=0
    ·have hm8b:((m8:Int) == 0)=true:=by simpa using hm80
     clear hm80 hm8
     obtain ⟨x0,tl,rfl⟩:∃ x0 tl,xs=x0 :: tl:=by
      cases xs with
      | nil=>simp at hx1i
      | cons x0 tl=>exact ⟨x0,tl,rfl⟩
     obtain ⟨ga,cur,-,rfl,hga,kg,-⟩:=HO2.o.open_ (k:=0) (by simp);have hcap:(x0 :: tl).length≤d1:=AtomsO.capL HO2.o;have hd1:1<d1:=by simp at hcap hx1i;omega
     have hd2:¬d1 - 1=0:=by omega
     have hd3:d1≠1:=by omega
     have hti:(0:Int)<(tl.length:Int)+1:=by omega
     have hti1:(1:Int)≤(tl.length:Int)+1:=by omega
     have htl:tl.length≤19:=by simp at hxl;omega
     have HXV:=ax (HO2.o.readsI).2;have hc3:=HXV.o.cl (k:=0) (by simp);obtain ⟨z0,z1,z2⟩:=hc3;simp only[Nat.zero_mul,Nat.add_zero,Nat.zero_add,List.getElem_cons_zero] at z0 z1 z2;clear kg hga hcap;(go_wp2_with fail);refine wp_region_noPanic ?_;refine wp_region_last' (S:=(fun w'=>(∀ i,w'.cell? ⟨X,i,none⟩=#[.slice (some ⟨gf,3,none⟩) ft0.length (e1 - 1),.slice (some ⟨ga,0,none⟩) (x0 :: tl).length d1][i]?)∧w'.cell? ⟨ga,0,none⟩=some (.int .i64 x0.kind)∧w'.cell? ⟨ga,1,none⟩=some (.int .i64 x0.a)∧w'.cell? ⟨ga,2,none⟩=some (.int .i64 x0.b))) (by simp) (by kernel_rfl) (by kernel_rfl) (⟨Blk.cell blks,z0,z1,z2⟩) (fun aH=>?_);simp only[List.dropLast,List.getLast,nopOf,List.cons_append,List.nil_append,List.length_cons,List.length_nil,Nat.zero_add,Nat.reduceAdd];refine tk2 1 rfl aH (h:=tk2 2 rfl aH (h:=tk2 3 rfl aH (h:=?_)));(try simp only[zz]);refine tk2 5 rfl aH (h:=tk2 6 rfl aH (h:=tk2 7 rfl aH (h:=?_)));(try simp only[zz]);refine tk2 8 rfl aH (h:=?_);(try simp only[zz])
     refine wpAnyH_par [0,4,9] #[true,true,true,true,true,true,true,true,true,true,false,false,false] 3 (by kernel_rfl) aH
      (fun a0 D a1 w'=>aJ (Below w8.heap.size w8 w')∧aJ (dn D 4=true→dn D 0=true)∧
       ∃ v66 v70 v75,a1=((a0.put (some 66) v66).put (some 70) v70).put (some 75) v75∧
        aJ (dn D 0=true→dn D 4=false→(∃ y,v66=.slice (some ⟨y,0,none⟩) 0 0)∧AtomsO w' w8.heap.size v66 [])∧
        aJ (dn D 4=true→(∃ A c,v70=.slice A tl.length c)∧AtomsO w' w8.heap.size v70 tl)∧
        aJ (dn D 9=true→∃ y,v75=.slice (some ⟨y,0,none⟩) 1 1∧Blk w' y tA #[.int .i64 x0.kind,.int .i64 x0.a,.int .i64 x0.b]∧(dn D 0=true→dn D 4=false→v66.ownBlock≠some y))) ?start ?steps ?fin
     case start=>exact ⟨(Below.refl _ w8).drew,fun h=>absurd h (by decide),undef,undef,undef,rfl,fun h=>absurd h (by decide),fun h=>absurd h (by decide),fun h=>absurd h (by decide)⟩
     case steps=>
      refine ParSteps.cons rfl (fun D a1 w' hu hd hI hS K' hK G' hG=>?_) (ParSteps.cons rfl (fun D a1 w' hu hd hI hS K' hK G' hG=>?_) (ParSteps.cons rfl (fun D a1 w' hu hd hI hS K' hK G' hG=>?_) ParSteps.nil))
      ·obtain ⟨HW,HC,v66,v70,v75,ha,h0,h4,h9⟩:=hI;rw[ha] at hG;clear ha a1;have u0:=dn_un hu;have u4:dn D 4=false:=by cases e:dn D 4;rfl;have:=HC.o e;rw[u0] at this;cases this
       have HU:=ax u4;clear u0 u4;refine hG ?_;clear hG hd;(try simp only[zz]);go_simp;have hB2:Below w8.heap.size w8 (w'.alloc (.cells #[] tA)):=HW.o.alloc HW.o.size _;have hBw:Below w'.heap.size w' (w'.alloc (.cells #[] tA)):=bbox (Below.refl _ _) _;have hcc:=(HXV.o.bz hB2).cl (k:=0) (by simp);simp only[Nat.zero_mul,Nat.add_zero,Nat.zero_add,List.getElem_cons_zero] at hcc;refine hK.out _ _ ⟨(kx.nz hB2).cell,hcc⟩ ⟨hB2,fun _=>dn_self hu,.slice (some ⟨w'.heap.size,0,none⟩) 0 0,v70,v75,rfl,fun _ _=>⟨⟨_,rfl⟩,(AtomsO.empty w').bq HW.o.size⟩,fun h=>?_,fun h=>?_⟩
       ·rw[dn_ne (by decide)] at h;rw[HU.o] at h;cases h
       ·rw[dn_ne (by decide)] at h;obtain ⟨y,e,hk,-⟩:=h9.o h;exact ⟨y,e,hk.alloc _,fun _ _ e2=>by have:=hk.lt;simp[Value.ownBlock] at e2;omega⟩
      ·obtain ⟨HW,HC,v66,v70,v75,ha,h0,h4,h9⟩:=hI;rw[ha] at hG;clear ha a1;have u4:=dn_un hu;have t0:dn D 0=true:=hd ⟨0,.data⟩ (by simp) (by decide);obtain ⟨⟨y,rfl⟩,o⟩:=h0.o t0 u4;have HO:=ax o;have HU:=ax (And.intro u4 t0);clear u4 t0 o h0 hd;refine hG ?_;clear hG;(try simp only[zz]);rw[if_pos (by simp[Region.wanted])];refine wp_appAL (base:=w8.heap.size) (xs:=[]) (ys:=tl) _ _ rfl rfl HO.o rfl (Rd.tailA (HXV.o.bz HW.o)) (by simp;omega) HW.o.size ?_;intro A' c' w2 o2 hg2 hB2;simp only[List.nil_append] at o2 ⊢;have hB3:Below w8.heap.size w8 w2:=HW.o.trans hB2;have hcc:=(HXV.o.bz hB3).cl (k:=0) (by simp);simp only[Nat.zero_mul,Nat.add_zero,Nat.zero_add,List.getElem_cons_zero] at hcc;refine hK.out _ _ ⟨(kx.nz hB3).cell,hcc⟩ ⟨hB3,fun _=>?_,.slice (some ⟨y,0,none⟩) 0 0,.slice A' tl.length c',v75,rfl,fun _ h=>?_,fun _=>⟨⟨A',c',rfl⟩,o2⟩,fun h=>?_⟩
       ·rw[dn_ne (by decide)];exact HU.o.2
       ·rw[dn_self hu] at h;cases h
       ·rw[dn_ne (by decide)] at h;obtain ⟨z,e,hk,hne⟩:=h9.o h;exact ⟨z,e,hk.grown hg2 (fun e2=>hne HU.o.2 HU.o.1 e2.symm),fun _ h2=>by rw[dn_self hu] at h2;cases h2⟩
      ·obtain ⟨HW,HC,v66,v70,v75,ha,h0,h4,h9⟩:=hI;rw[ha] at hG;clear ha a1;refine hG ?_;clear hG hd;(try simp only[zz]);go_simp;have hB2:Below w8.heap.size w8 (w'.alloc (.cells #[.int .i64 x0.kind,.int .i64 x0.a,.int .i64 x0.b] tA)):=HW.o.alloc HW.o.size _;have hBw:Below w'.heap.size w' (w'.alloc (.cells #[.int .i64 x0.kind,.int .i64 x0.a,.int .i64 x0.b] tA)):=bbox (Below.refl _ _) _;have hcc:=(HXV.o.bz hB2).cl (k:=0) (by simp);simp only[Nat.zero_mul,Nat.add_zero,Nat.zero_add,List.getElem_cons_zero] at hcc;refine hK.out _ _ ⟨(kx.nz hB2).cell,hcc⟩ ⟨hB2,fun h=>?_,v66,v70,.slice (some ⟨w'.heap.size,0,none⟩) 1 1,rfl,fun h h'=>?_,fun h=>?_,fun _=>⟨_,rfl,Blk.new _ _ _,fun h h' e=>?_⟩⟩
       ·rw[dn_ne (by decide)] at h ⊢;exact HC.o h
       ·rw[dn_ne (by decide)] at h h';exact ⟨(h0.o h h').1,(h0.o h h').2.bz hBw⟩
       ·rw[dn_ne (by decide)] at h;exact ⟨(h4.o h).1,(h4.o h).2.bz hBw⟩
       ·rw[dn_ne (by decide)] at h h';have:=((h0.o h h').2.1.lt _ e).2;omega
     case fin=>
      rintro a1 w9 aH ⟨HW,-,v66,v70,v75,rfl,-,h4,h9⟩;obtain ⟨⟨A9,c9,rfl⟩,o9⟩:=h4.o (by decide);obtain ⟨y9,rfl,ky9,-⟩:=h9.o (by decide);have HO9:=ax o9;clear o9 h4 h9;(try simp only[zz]);refine rdc 10 rfl fun K hK=>?_;skip;(refine stepAL (base:=w8.heap.size) (xs:=tl) (ys:=[x0]) rfl _ _ rfl rfl HO9.o rfl (AtomsV.one (f:=x0) ky9) (by simp;omega) HW.o.size ?_;intro A10 c10 w10 o10 hg10 hB10;have hB11:Below w8.heap.size w8 w10:=HW.o.trans hB10;have hcc:=(HXV.o.bz hB11).cl (k:=0) (by simp);simp only[Nat.zero_mul,Nat.add_zero,Nat.zero_add,List.getElem_cons_zero] at hcc);refine hK.out _ _ (⟨(kx.nz hB11).cell,hcc⟩) ?_;clear aH hK K;intro aH;(try simp only[zz]);rw[List.length_append,List.length_singleton] at o10;have HO10:=ax o10;have hsz8:=HF.o.size;have kx10:=kx.nz hB11;have k110:=k1.nz hB11;have HF10:=ax (HF.o.go hB11);have HR10:=ax (HR.o.bz hB11);have HFO10:=ax (HFO.o.bz hB11);clear o10 hg10 hB10 HW HO9 ky9 HO2 kx k1 HF HR HFO qk1 rk1 lk1 qkx rkx lkx z0 z1 z2;(replace qk110:=k110.cell;replace rk110:=k110.frozen;replace lk110:=k110.lt;replace qkx10:=kx10.z);refine tk2 11 rfl aH (h:=?_);(try simp only[zz]);refine rdc 12 rfl fun K hK=>?_;go_simp;refine hK.out _ _ (⟨kx10.cell,hcc⟩) (fun aH=>?_);clear hK K;refine wpAnyH_done (by kernel_rfl) ?_ _;unfold lastQ;go_simp;refine NoPanic.normal ?_;have hne:X≠w.heap.size+1:=by omega
      have kx11:=kx10.set_ 1 (.slice A10 (tl.length+1) c10);have k111:=k110.far (p:=⟨X,1,none⟩) (by simp only;omega) (.slice A10 (tl.length+1) c10);have HO11:=ax (HO10.o.setT kx10 (by decide) 1 (.slice A10 (tl.length+1) c10));have HFO11:=ax (HFO10.o.setT kx10 (by decide) 1 (.slice A10 (tl.length+1) c10));have HR11:=ax (HR10.o.set_ (q:=⟨X,1,none⟩) (by simp only;omega) (.slice A10 (tl.length+1) c10));have HF11:=ax (HF10.o.set_ (p:=⟨X,1,none⟩) (Or.inr (by simp only;omega)) (.slice A10 (tl.length+1) c10));clear hcc aH;(go_wp2_with fail)
      first
      | (refine bodyPost_ret (v:=.agg #[.slice (some ⟨gf,3,none⟩) ft0.length (e1 - 1),.slice A10 (tl.length+1) c10]) (by simp[results,Tryz.results101,go_sem,qk110]) rfl ⟨_,rfl,⟨ft0,tl++[x0]⟩,⟨(some ⟨gf,3,none⟩),(e1 - 1),A10,c10,by simp,?_,?_⟩,hflN,by simp;omega,q,?_,by omega,?_⟩)
      | (refine bodyPost_ret (v:=.agg #[.slice (some ⟨gf,3,none⟩) ft0.length (e1 - 1),.slice A10 (tl.length+1) c10]) (by simp[results,Tryz.results101,go_sem,qk110]) rfl ⟨_,⟨ft0,tl++[x0]⟩,q,rfl,⟨(some ⟨gf,3,none⟩),(e1 - 1),A10,c10,by simp,?_,?_⟩,hflN,by simp;omega,?_,by omega,?_⟩)
      ·exact HREL.o.rj ((HFO11.o.setT k111 (by decide) 0 _).setT (k111.set_ 0 _) (by decide) 1 _)
      ·exact (((((HO11.o.bq (base':=w.heap.size) (by omega)).setT k111 (by decide) 0 _).setT (k111.set_ 0 _) (by decide) 1 _)).reads2)
      ·exact (HR11.o.set_ (q:=⟨w.heap.size+1,0,none⟩) (by simp only;omega) _).set_ (q:=⟨w.heap.size+1,1,none⟩) (by simp only;omega) _
      ·exact (HF11.o.set_ (p:=⟨w.heap.size+1,0,none⟩) (Or.inr (by simp only;omega)) _).set_ (p:=⟨w.heap.size+1,1,none⟩) (Or.inr (by simp only;omega)) _
    have hm8b:((m8:Int) == 0)=false:=by simpa using hm80
    clear hm80 hm8;have hne:X≠w.heap.size+1:=by omega
    go_wp2_with fail
    first
    | (refine bodyPost_ret (v:=.agg #[.slice (some ⟨gf,3,none⟩) ft0.length (e1 - 1),.slice G xs.length d1]) (by simp[results,Tryz.results101,go_sem,qk1]) rfl ⟨_,rfl,⟨ft0,xs⟩,⟨(some ⟨gf,3,none⟩),(e1 - 1),G,d1,rfl,?_,?_⟩,hflN,hxl,q,?_,by omega,?_⟩)
    | (refine bodyPost_ret (v:=.agg #[.slice (some ⟨gf,3,none⟩) ft0.length (e1 - 1),.slice G xs.length d1]) (by simp[results,Tryz.results101,go_sem,qk1]) rfl ⟨_,⟨ft0,xs⟩,q,rfl,⟨(some ⟨gf,3,none⟩),(e1 - 1),G,d1,rfl,?_,?_⟩,hflN,hxl,?_,by omega,?_⟩)
    ·exact HREL.o.rj ((HFO.o.setT k1 (by decide) 0 _).setT (k1.set_ 0 _) (by decide) 1 _)
    ·exact ((((HO2.o.setT k1 (by decide) 0 _).setT (k1.set_ 0 _) (by decide) 1 _)).readsI).2
    ·exact (HR.o.set_ (q:=⟨w.heap.size+1,0,none⟩) (by simp only;omega) _).set_ (q:=⟨w.heap.size+1,1,none⟩) (by simp only;omega) _
    ·exact (HF.o.set_ (p:=⟨w.heap.size+1,0,none⟩) (Or.inr (by simp only;omega)) _).set_ (p:=⟨w.heap.size+1,1,none⟩) (Or.inr (by simp only;omega)) _
   have hm5b:((m5:Int) == 0)=false:=by simpa using hm50
   clear hm50 hm5;have HREL:aJ (FRel F fs F fs):=Or.inl ⟨rfl,rfl⟩;by_cases hx0:xs.length=0
   ·have hx0i:¬(0:Int)<(xs.length:Int):=by omega
    have hx1i:¬(1:Int)<(xs.length:Int):=by omega
    clear hx0;have hne:X≠w.heap.size+1:=by omega
    go_wp2_with fail
    first
    | (refine bodyPost_ret (v:=.agg #[.slice F fs.length e1,.slice G xs.length d1]) (by simp[results,Tryz.results101,go_sem,qk1]) rfl ⟨_,rfl,⟨fs,xs⟩,⟨F,e1,G,d1,rfl,?_,?_⟩,hfl,hxl,q,?_,by omega,?_⟩)
    | (refine bodyPost_ret (v:=.agg #[.slice F fs.length e1,.slice G xs.length d1]) (by simp[results,Tryz.results101,go_sem,qk1]) rfl ⟨_,⟨fs,xs⟩,q,rfl,⟨F,e1,G,d1,rfl,?_,?_⟩,hfl,hxl,?_,by omega,?_⟩)
    ·exact HREL.o.rj ((HFO.o.setT k1 (by decide) 0 _).setT (k1.set_ 0 _) (by decide) 1 _)
    ·exact ((((HO2.o.setT k1 (by decide) 0 _).setT (k1.set_ 0 _) (by decide) 1 _)).readsI).2
    ·exact (HR.o.set_ (q:=⟨w.heap.size+1,0,none⟩) (by simp only;omega) _).set_ (q:=⟨w.heap.size+1,1,none⟩) (by simp only;omega) _
    ·exact (HF.o.set_ (p:=⟨w.heap.size+1,0,none⟩) (Or.inr (by simp only;omega)) _).set_ (p:=⟨w.heap.size+1,1,none⟩) (Or.inr (by simp only;omega)) _
   have hx0i:(0:Int)<(xs.length:Int):=by omega
   (go_wp2_with fail);refine (c_pick g q 3 _ HR.o (by omega)).mono ?_;rintro e w6 ⟨m6,rfl,hm6,hR,hF⟩;replace k1:=k1.fr hF (by omega);replace kx:=kx.fr hF (by omega);replace HF:=ax (HF.o.trans hF);replace HFO:=ax (HFO.o.fr hF hlt);replace HO2:=ax (HO2.o.fr hF hlt);replace HR:=ax hR;replace hq:q+1≤p+3:=by omega
   generalize q+1=q at HR hq;clear hR hF;(replace qk1:=k1.cell;replace rk1:=k1.frozen;replace lk1:=k1.lt;replace qkx:=kx.cell;replace rkx:=kx.frozen;replace lkx:=kx.lt);by_cases hm60:(m6:Int)=0
   ·have hm6b:((m6:Int) == 0)=true:=by simpa using hm60
    clear hm60 hm6;(go_wp2_with fail);refine (c_pick g q (xs.length:Int) _ HR.o (by omega)).mono ?_;rintro e w7 ⟨m7,rfl,hm7,hR,hF⟩;replace k1:=k1.fr hF (by omega);replace kx:=kx.fr hF (by omega);replace HF:=ax (HF.o.trans hF);replace HFO:=ax (HFO.o.fr hF hlt);replace HO2:=ax (HO2.o.fr hF hlt);replace HR:=ax hR;replace hq:q+1≤p+4:=by omega
    generalize q+1=q at HR hq;clear hR hF;(replace qk1:=k1.cell;replace rk1:=k1.frozen;replace lk1:=k1.lt;replace qkx:=kx.cell;replace rkx:=kx.frozen;replace lkx:=kx.lt);have hm7l:m7<xs.length:=by omega
    obtain ⟨ga,cur,-,rfl,hga,kg,hsz3,hc0,hc1,hc2,hset⟩:=HO2.o.open_ (k:=m7) hm7l;have qg:=(kg.cell (m7 * 3)).trans hc0;have rg:=kg.frozen;have lg:=kg.lt;obtain ⟨ok,hok⟩:∃ ok,ok=(xs[m7]'hm7l).kind:=⟨_,rfl⟩;rw[←hok] at qg;have hm7i:(m7:Int)<(xs.length:Int):=by omega
    have hxg:X≠ga:=kx.ne_ kg (by decide);have h1g:w.heap.size+1≠ga:=k1.ne_ kg (by decide);clear hc0 hc1 hc2 hok hsz3 hm7;obtain ⟨ys,hys⟩:∃ ys,ys=xs.set m7 ⟨2,(xs[m7]'hm7l).a,(xs[m7]'hm7l).b⟩:=⟨_,rfl⟩;have hyl:ys.length=xs.length:=by rw[hys];simp
    have E0:=hset (m7 * 3) (.int .i64 2) ys (by rw[hys];exact encA_setK hm7l 2) hyl;rw[←hyl] at E0 kx hm7i hxl hx0i;have hga0:=kg;clear hset HO2 hys;have HO2:=ax E0;clear E0;replace HFO:=ax (HFO.o.setT kg (by decide) (m7 * 3) (.int .i64 2));replace HR:=ax (HR.o.set_ (q:=⟨ga,m7 * 3,none⟩) (by simp only;omega) (.int .i64 2));replace HF:=ax (HF.o.set_ (p:=⟨ga,m7 * 3,none⟩) (Or.inr hga) (.int .i64 2));(replace qk1:=k1.cell;replace rk1:=k1.frozen;replace lk1:=k1.lt;replace qkx:=kx.cell;replace rkx:=kx.frozen;replace lkx:=kx.lt);have qk17:=qk1;have qkx7:=qkx;have lk17:=lk1;have lkx7:=lkx;have rk17:=rk1;have rkx7:=rkx;replace k1:=k1.far (p:=⟨ga,m7 * 3,none⟩) h1g (.int .i64 2);replace kx:=kx.far (p:=⟨ga,m7 * 3,none⟩) hxg (.int .i64 2);have hgx:ga≠X:=fun e=>hxg e.symm;have hg1:ga≠w.heap.size+1:=fun e=>h1g e.symm;clear hyl hx0 hm7l;by_cases hx1:ys.length≤1
    ·have hx1i:¬(1:Int)<(ys.length:Int):=by omega
     have hne:X≠w.heap.size+1:=by omega
     go_wp2_with fail
     first
     | (refine bodyPost_ret (v:=.agg #[.slice F fs.length e1,.slice (some ⟨ga,0,none⟩) ys.length d1]) (by simp[results,Tryz.results101,go_sem,qk17,lk17,h1g,hg1]) rfl ⟨_,rfl,⟨fs,ys⟩,⟨F,e1,(some ⟨ga,0,none⟩),d1,rfl,?_,?_⟩,hfl,hxl,q,?_,by omega,?_⟩)
     | (refine bodyPost_ret (v:=.agg #[.slice F fs.length e1,.slice (some ⟨ga,0,none⟩) ys.length d1]) (by simp[results,Tryz.results101,go_sem,qk17,lk17,h1g,hg1]) rfl ⟨_,⟨fs,ys⟩,q,rfl,⟨F,e1,(some ⟨ga,0,none⟩),d1,rfl,?_,?_⟩,hfl,hxl,?_,by omega,?_⟩)
     ·exact HREL.o.rj ((HFO.o.setT k1 (by decide) 0 _).setT (k1.set_ 0 _) (by decide) 1 _)
     ·exact ((((HO2.o.setT k1 (by decide) 0 _).setT (k1.set_ 0 _) (by decide) 1 _)).readsI).2
     ·exact (HR.o.set_ (q:=⟨w.heap.size+1,0,none⟩) (by simp only;omega) _).set_ (q:=⟨w.heap.size+1,1,none⟩) (by simp only;omega) _
     ·exact (HF.o.set_ (p:=⟨w.heap.size+1,0,none⟩) (Or.inr (by simp only;omega)) _).set_ (p:=⟨w.heap.size+1,1,none⟩) (Or.inr (by simp only;omega)) _
    have hx1i:(1:Int)<(ys.length:Int):=by omega
    (go_wp2_with fail);refine (c_pick g q 3 _ HR.o (by omega)).mono ?_;rintro e w8 ⟨m8,rfl,hm8,hR,hF⟩;replace k1:=k1.fr hF (by omega);replace kx:=kx.fr hF (by omega);replace HF:=ax (HF.o.trans hF);replace HFO:=ax (HFO.o.fr hF hlt);replace HO2:=ax (HO2.o.fr hF hlt);replace HR:=ax hR;replace hq:q+1≤p+5:=by omega
    generalize q+1=q at HR hq;clear hR hF;(replace qk1:=k1.cell;replace rk1:=k1.frozen;replace lk1:=k1.lt;replace qkx:=kx.cell;replace rkx:=kx.frozen;replace lkx:=kx.lt);by_cases hm80:(m8:Int)=0
    ·have hm8b:((m8:Int) == 0)=true:=by simpa using hm80
     clear hm80 hm8
     obtain ⟨x0,tl,rfl⟩:∃ x0 tl,ys=x0 :: tl:=by
      cases ys with
      | nil=>simp at hx1i
      | cons x0 tl=>exact ⟨x0,tl,rfl⟩
     have hcap:(x0 :: tl).length≤d1:=AtomsO.capL HO2.o;have hd1:1<d1:=by simp at hcap hx1i;omega
     have hd2:¬d1 - 1=0:=by omega
     have hd3:d1≠1:=by omega
     have hti:(0:Int)<(tl.length:Int)+1:=by omega
     have hti1:(1:Int)≤(tl.length:Int)+1:=by omega
     have htl:tl.length≤19:=by simp at hxl;omega
     have HXV:=ax (HO2.o.readsI).2;have hc3:=HXV.o.cl (k:=0) (by simp);obtain ⟨z0,z1,z2⟩:=hc3;simp only[Nat.zero_mul,Nat.add_zero,Nat.zero_add,List.getElem_cons_zero] at z0 z1 z2;clear hcap;(go_wp2_with fail);refine wp_region_noPanic ?_;refine wp_region_last' (S:=(fun w'=>(∀ i,w'.cell? ⟨X,i,none⟩=#[.slice F fs.length e1,.slice (some ⟨ga,0,none⟩) (x0 :: tl).length d1][i]?)∧w'.cell? ⟨ga,0,none⟩=some (.int .i64 x0.kind)∧w'.cell? ⟨ga,1,none⟩=some (.int .i64 x0.a)∧w'.cell? ⟨ga,2,none⟩=some (.int .i64 x0.b))) (by simp) (by kernel_rfl) (by kernel_rfl) (⟨Blk.cell blks,z0,z1,z2⟩) (fun aH=>?_);simp only[List.dropLast,List.getLast,nopOf,List.cons_append,List.nil_append,List.length_cons,List.length_nil,Nat.zero_add,Nat.reduceAdd];refine tk2 1 rfl aH (h:=tk2 2 rfl aH (h:=tk2 3 rfl aH (h:=?_)));(try simp only[zz]);refine tk2 5 rfl aH (h:=tk2 6 rfl aH (h:=tk2 7 rfl aH (h:=?_)));(try simp only[zz]);refine tk2 8 rfl aH (h:=?_);(try simp only[zz])
     refine wpAnyH_par [0,4,9] #[true,true,true,true,true,true,true,true,true,true,false,false,false] 3 (by kernel_rfl) aH
      (fun a0 D a1 w'=>aJ (Below w8.heap.size w8 w')∧aJ (dn D 4=true→dn D 0=true)∧
       ∃ v66 v70 v75,a1=((a0.put (some 66) v66).put (some 70) v70).put (some 75) v75∧
        aJ (dn D 0=true→dn D 4=false→(∃ y,v66=.slice (some ⟨y,0,none⟩) 0 0)∧AtomsO w' w8.heap.size v66 [])∧
        aJ (dn D 4=true→(∃ A c,v70=.slice A tl.length c)∧AtomsO w' w8.heap.size v70 tl)∧
        aJ (dn D 9=true→∃ y,v75=.slice (some ⟨y,0,none⟩) 1 1∧Blk w' y tA #[.int .i64 x0.kind,.int .i64 x0.a,.int .i64 x0.b]∧(dn D 0=true→dn D 4=false→v66.ownBlock≠some y))) ?start ?steps ?fin
     case start=>exact ⟨(Below.refl _ w8).drew,fun h=>absurd h (by decide),undef,undef,undef,rfl,fun h=>absurd h (by decide),fun h=>absurd h (by decide),fun h=>absurd h (by decide)⟩
     case steps=>
      refine ParSteps.cons rfl (fun D a1 w' hu hd hI hS K' hK G' hG=>?_) (ParSteps.cons rfl (fun D a1 w' hu hd hI hS K' hK G' hG=>?_) (ParSteps.cons rfl (fun D a1 w' hu hd hI hS K' hK G' hG=>?_) ParSteps.nil))
      ·obtain ⟨HW,HC,v66,v70,v75,ha,h0,h4,h9⟩:=hI;rw[ha] at hG;clear ha a1;have u0:=dn_un hu;have u4:dn D 4=false:=by cases e:dn D 4;rfl;have:=HC.o e;rw[u0] at this;cases this
       have HU:=ax u4;clear u0 u4;refine hG ?_;clear hG hd;(try simp only[zz]);go_simp;have hB2:Below w8.heap.size w8 (w'.alloc (.cells #[] tA)):=HW.o.alloc HW.o.size _;have hBw:Below w'.heap.size w' (w'.alloc (.cells #[] tA)):=bbox (Below.refl _ _) _;have hcc:=(HXV.o.bz hB2).cl (k:=0) (by simp);simp only[Nat.zero_mul,Nat.add_zero,Nat.zero_add,List.getElem_cons_zero] at hcc;refine hK.out _ _ ⟨(kx.nz hB2).cell,hcc⟩ ⟨hB2,fun _=>dn_self hu,.slice (some ⟨w'.heap.size,0,none⟩) 0 0,v70,v75,rfl,fun _ _=>⟨⟨_,rfl⟩,(AtomsO.empty w').bq HW.o.size⟩,fun h=>?_,fun h=>?_⟩
       ·rw[dn_ne (by decide)] at h;rw[HU.o] at h;cases h
       ·rw[dn_ne (by decide)] at h;obtain ⟨y,e,hk,-⟩:=h9.o h;exact ⟨y,e,hk.alloc _,fun _ _ e2=>by have:=hk.lt;simp[Value.ownBlock] at e2;omega⟩
      ·obtain ⟨HW,HC,v66,v70,v75,ha,h0,h4,h9⟩:=hI;rw[ha] at hG;clear ha a1;have u4:=dn_un hu;have t0:dn D 0=true:=hd ⟨0,.data⟩ (by simp) (by decide);obtain ⟨⟨y,rfl⟩,o⟩:=h0.o t0 u4;have HO:=ax o;have HU:=ax (And.intro u4 t0);clear u4 t0 o h0 hd;refine hG ?_;clear hG;(try simp only[zz]);rw[if_pos (by simp[Region.wanted])];refine wp_appAL (base:=w8.heap.size) (xs:=[]) (ys:=tl) _ _ rfl rfl HO.o rfl (Rd.tailA (HXV.o.bz HW.o)) (by simp;omega) HW.o.size ?_;intro A' c' w2 o2 hg2 hB2;simp only[List.nil_append] at o2 ⊢;have hB3:Below w8.heap.size w8 w2:=HW.o.trans hB2;have hcc:=(HXV.o.bz hB3).cl (k:=0) (by simp);simp only[Nat.zero_mul,Nat.add_zero,Nat.zero_add,List.getElem_cons_zero] at hcc;refine hK.out _ _ ⟨(kx.nz hB3).cell,hcc⟩ ⟨hB3,fun _=>?_,.slice (some ⟨y,0,none⟩) 0 0,.slice A' tl.length c',v75,rfl,fun _ h=>?_,fun _=>⟨⟨A',c',rfl⟩,o2⟩,fun h=>?_⟩
       ·rw[dn_ne (by decide)];exact HU.o.2
       ·rw[dn_self hu] at h;cases h
       ·rw[dn_ne (by decide)] at h;obtain ⟨z,e,hk,hne⟩:=h9.o h;exact ⟨z,e,hk.grown hg2 (fun e2=>hne HU.o.2 HU.o.1 e2.symm),fun _ h2=>by rw[dn_self hu] at h2;cases h2⟩
      ·obtain ⟨HW,HC,v66,v70,v75,ha,h0,h4,h9⟩:=hI;rw[ha] at hG;clear ha a1;refine hG ?_;clear hG hd;(try simp only[zz]);go_simp;have hB2:Below w8.heap.size w8 (w'.alloc (.cells #[.int .i64 x0.kind,.int .i64 x0.a,.int .i64 x0.b] tA)):=HW.o.alloc HW.o.size _;have hBw:Below w'.heap.size w' (w'.alloc (.cells #[.int .i64 x0.kind,.int .i64 x0.a,.int .i64 x0.b] tA)):=bbox (Below.refl _ _) _;have hcc:=(HXV.o.bz hB2).cl (k:=0) (by simp);simp only[Nat.zero_mul,Nat.add_zero,Nat.zero_add,List.getElem_cons_zero] at hcc;refine hK.out _ _ ⟨(kx.nz hB2).cell,hcc⟩ ⟨hB2,fun h=>?_,v66,v70,.slice (some ⟨w'.heap.size,0,none⟩) 1 1,rfl,fun h h'=>?_,fun h=>?_,fun _=>⟨_,rfl,Blk.new _ _ _,fun h h' e=>?_⟩⟩
       ·rw[dn_ne (by decide)] at h ⊢;exact HC.o h
       ·rw[dn_ne (by decide)] at h h';exact ⟨(h0.o h h').1,(h0.o h h').2.bz hBw⟩
       ·rw[dn_ne (by decide)] at h;exact ⟨(h4.o h).1,(h4.o h).2.bz hBw⟩
       ·rw[dn_ne (by decide)] at h h';have:=((h0.o h h').2.1.lt _ e).2;omega
     case fin=>
      rintro a1 w9 aH ⟨HW,-,v66,v70,v75,rfl,-,h4,h9⟩;obtain ⟨⟨A9,c9,rfl⟩,o9⟩:=h4.o (by decide);obtain ⟨y9,rfl,ky9,-⟩:=h9.o (by decide);have HO9:=ax o9;clear o9 h4 h9;(try simp only[zz]);refine rdc 10 rfl fun K hK=>?_;skip;(refine stepAL (base:=w8.heap.size) (xs:=tl) (ys:=[x0]) rfl _ _ rfl rfl HO9.o rfl (AtomsV.one (f:=x0) ky9) (by simp;omega) HW.o.size ?_;intro A10 c10 w10 o10 hg10 hB10;have hB11:Below w8.heap.size w8 w10:=HW.o.trans hB10;have hcc:=(HXV.o.bz hB11).cl (k:=0) (by simp);simp only[Nat.zero_mul,Nat.add_zero,Nat.zero_add,List.getElem_cons_zero] at hcc);refine hK.out _ _ (⟨(kx.nz hB11).cell,hcc⟩) ?_;clear aH hK K;intro aH;(try simp only[zz]);rw[List.length_append,List.length_singleton] at o10;have HO10:=ax o10;have hsz8:=HF.o.size;have kx10:=kx.nz hB11;have k110:=k1.nz hB11;have HF10:=ax (HF.o.go hB11);have HR10:=ax (HR.o.bz hB11);have HFO10:=ax (HFO.o.bz hB11);clear o10 hg10 hB10 HW HO9 ky9 HO2 kx k1 HF HR HFO qk1 rk1 lk1 qkx rkx lkx z0 z1 z2;(replace qk110:=k110.cell;replace rk110:=k110.frozen;replace lk110:=k110.lt;replace qkx10:=kx10.z);refine tk2 11 rfl aH (h:=?_);(try simp only[zz]);refine rdc 12 rfl fun K hK=>?_;go_simp;refine hK.out _ _ (⟨kx10.cell,hcc⟩) (fun aH=>?_);clear hK K;refine wpAnyH_done (by kernel_rfl) ?_ _;unfold lastQ;go_simp;refine NoPanic.normal ?_;have hne:X≠w.heap.size+1:=by omega
      have kx11:=kx10.set_ 1 (.slice A10 (tl.length+1) c10);have k111:=k110.far (p:=⟨X,1,none⟩) (by simp only;omega) (.slice A10 (tl.length+1) c10);have HO11:=ax (HO10.o.setT kx10 (by decide) 1 (.slice A10 (tl.length+1) c10));have HFO11:=ax (HFO10.o.setT kx10 (by decide) 1 (.slice A10 (tl.length+1) c10));have HR11:=ax (HR10.o.set_ (q:=⟨X,1,none⟩) (by simp only;omega) (.slice A10 (tl.length+1) c10));have HF11:=ax (HF10.o.set_ (p:=⟨X,1,none⟩) (Or.inr (by simp only;omega)) (.slice A10 (tl.length+1) c10));clear hcc aH;(go_wp2_with fail)
      first
      | (refine bodyPost_ret (v:=.agg #[.slice F fs.length e1,.slice A10 (tl.length+1) c10]) (by simp[results,Tryz.results101,go_sem,qk110]) rfl ⟨_,rfl,⟨fs,tl++[x0]⟩,⟨F,e1,A10,c10,by simp,?_,?_⟩,hfl,by simp;omega,q,?_,by omega,?_⟩)
      | (refine bodyPost_ret (v:=.agg #[.slice F fs.length e1,.slice A10 (tl.length+1) c10]) (by simp[results,Tryz.results101,go_sem,qk110]) rfl ⟨_,⟨fs,tl++[x0]⟩,q,rfl,⟨F,e1,A10,c10,by simp,?_,?_⟩,hfl,by simp;omega,?_,by omega,?_⟩)
      ·exact HREL.o.rj ((HFO11.o.setT k111 (by decide) 0 _).setT (k111.set_ 0 _) (by decide) 1 _)
      ·exact (((((HO11.o.bq (base':=w.heap.size) (by omega)).setT k111 (by decide) 0 _).setT (k111.set_ 0 _) (by decide) 1 _)).reads2)
      ·exact (HR11.o.set_ (q:=⟨w.heap.size+1,0,none⟩) (by simp only;omega) _).set_ (q:=⟨w.heap.size+1,1,none⟩) (by simp only;omega) _
      ·exact (HF11.o.set_ (p:=⟨w.heap.size+1,0,none⟩) (Or.inr (by simp only;omega)) _).set_ (p:=⟨w.heap.size+1,1,none⟩) (Or.inr (by simp only;omega)) _
    have hm8b:((m8:Int) == 0)=false:=by simpa using hm80
    clear hm80 hm8;have hne:X≠w.heap.size+1:=by omega
    go_wp2_with fail
    first
    | (refine bodyPost_ret (v:=.agg #[.slice F fs.length e1,.slice (some ⟨ga,0,none⟩) ys.length d1]) (by simp[results,Tryz.results101,go_sem,qk1]) rfl ⟨_,rfl,⟨fs,ys⟩,⟨F,e1,(some ⟨ga,0,none⟩),d1,rfl,?_,?_⟩,hfl,hxl,q,?_,by omega,?_⟩)
    | (refine bodyPost_ret (v:=.agg #[.slice F fs.length e1,.slice (some ⟨ga,0,none⟩) ys.length d1]) (by simp[results,Tryz.results101,go_sem,qk1]) rfl ⟨_,⟨fs,ys⟩,q,rfl,⟨F,e1,(some ⟨ga,0,none⟩),d1,rfl,?_,?_⟩,hfl,hxl,?_,by omega,?_⟩)
    ·exact HREL.o.rj ((HFO.o.setT k1 (by decide) 0 _).setT (k1.set_ 0 _) (by decide) 1 _)
    ·exact ((((HO2.o.setT k1 (by decide) 0 _).setT (k1.set_ 0 _) (by decide) 1 _)).readsI).2
    ·exact (HR.o.set_ (q:=⟨w.heap.size+1,0,none⟩) (by simp only;omega) _).set_ (q:=⟨w.heap.size+1,1,none⟩) (by simp only;omega) _
    ·exact (HF.o.set_ (p:=⟨w.heap.size+1,0,none⟩) (Or.inr (by simp only;omega)) _).set_ (p:=⟨w.heap.size+1,1,none⟩) (Or.inr (by simp only;omega)) _
   have hm6b:((m6:Int) == 0)=false:=by simpa using hm60
   clear hm60 hm6;by_cases hx1:xs.length≤1
   ·have hx1i:¬(1:Int)<(xs.length:Int):=by omega
    have hne:X≠w.heap.size+1:=by omega
    go_wp2_with fail
    first
    | (refine bodyPost_ret (v:=.agg #[.slice F fs.length e1,.slice G xs.length d1]) (by simp[results,Tryz.results101,go_sem,qk1]) rfl ⟨_,rfl,⟨fs,xs⟩,⟨F,e1,G,d1,rfl,?_,?_⟩,hfl,hxl,q,?_,by omega,?_⟩)
    | (refine bodyPost_ret (v:=.agg #[.slice F fs.length e1,.slice G xs.length d1]) (by simp[results,Tryz.results101,go_sem,qk1]) rfl ⟨_,⟨fs,xs⟩,q,rfl,⟨F,e1,G,d1,rfl,?_,?_⟩,hfl,hxl,?_,by omega,?_⟩)
    ·exact HREL.o.rj ((HFO.o.setT k1 (by decide) 0 _).setT (k1.set_ 0 _) (by decide) 1 _)
    ·exact ((((HO2.o.setT k1 (by decide) 0 _).setT (k1.set_ 0 _) (by decide) 1 _)).readsI).2
    ·exact (HR.o.set_ (q:=⟨w.heap.size+1,0,none⟩) (by simp only;omega) _).set_ (q:=⟨w.heap.size+1,1,none⟩) (by simp only;omega) _
    ·exact (HF.o.set_ (p:=⟨w.heap.size+1,0,none⟩) (Or.inr (by simp only;omega)) _).set_ (p:=⟨w.heap.size+1,1,none⟩) (Or.inr (by simp only;omega)) _
   have hx1i:(1:Int)<(xs.length:Int):=by omega
   (go_wp2_with fail);refine (c_pick g q 3 _ HR.o (by omega)).mono ?_;rintro e w8 ⟨m8,rfl,hm8,hR,hF⟩;replace k1:=k1.fr hF (by omega);replace kx:=kx.fr hF (by omega);replace HF:=ax (HF.o.trans hF);replace HFO:=ax (HFO.o.fr hF hlt);replace HO2:=ax (HO2.o.fr hF hlt);replace HR:=ax hR;replace hq:q+1≤p+4:=by omega
   generalize q+1=q at HR hq;clear hR hF;(replace qk1:=k1.cell;replace rk1:=k1.frozen;replace lk1:=k1.lt;replace qkx:=kx.cell;replace rkx:=kx.frozen;replace lkx:=kx.lt);by_cases hm80:(m8:Int)=0
   ·have hm8b:((m8:Int) == 0)=true:=by simpa using hm80
    clear hm80 hm8
    obtain ⟨x0,tl,rfl⟩:∃ x0 tl,xs=x0 :: tl:=by
     cases xs with
     | nil=>simp at hx1i
     | cons x0 tl=>exact ⟨x0,tl,rfl⟩
    obtain ⟨ga,cur,-,rfl,hga,kg,-⟩:=HO2.o.open_ (k:=0) (by simp);have hcap:(x0 :: tl).length≤d1:=AtomsO.capL HO2.o;have hd1:1<d1:=by simp at hcap hx1i;omega
    have hd2:¬d1 - 1=0:=by omega
    have hd3:d1≠1:=by omega
    have hti:(0:Int)<(tl.length:Int)+1:=by omega
    have hti1:(1:Int)≤(tl.length:Int)+1:=by omega
    have htl:tl.length≤19:=by simp at hxl;omega
    have HXV:=ax (HO2.o.readsI).2;have hc3:=HXV.o.cl (k:=0) (by simp);obtain ⟨z0,z1,z2⟩:=hc3;simp only[Nat.zero_mul,Nat.add_zero,Nat.zero_add,List.getElem_cons_zero] at z0 z1 z2;clear kg hga hcap;(go_wp2_with fail);refine wp_region_noPanic ?_;refine wp_region_last' (S:=(fun w'=>(∀ i,w'.cell? ⟨X,i,none⟩=#[.slice F fs.length e1,.slice (some ⟨ga,0,none⟩) (x0 :: tl).length d1][i]?)∧w'.cell? ⟨ga,0,none⟩=some (.int .i64 x0.kind)∧w'.cell? ⟨ga,1,none⟩=some (.int .i64 x0.a)∧w'.cell? ⟨ga,2,none⟩=some (.int .i64 x0.b))) (by simp) (by kernel_rfl) (by kernel_rfl) (⟨Blk.cell blks,z0,z1,z2⟩) (fun aH=>?_);simp only[List.dropLast,List.getLast,nopOf,List.cons_append,List.nil_append,List.length_cons,List.length_nil,Nat.zero_add,Nat.reduceAdd];refine tk2 1 rfl aH (h:=tk2 2 rfl aH (h:=tk2 3 rfl aH (h:=?_)));(try simp only[zz]);refine tk2 5 rfl aH (h:=tk2 6 rfl aH (h:=tk2 7 rfl aH (h:=?_)));(try simp only[zz]);refine tk2 8 rfl aH (h:=?_);(try simp only[zz])
    refine wpAnyH_par [0,4,9] #[true,true,true,true,true,true,true,true,true,true,false,false,false] 3 (by kernel_rfl) aH
     (fun a0 D a1 w'=>aJ (Below w8.heap.size w8 w')∧aJ (dn D 4=true→dn D 0=true)∧
      ∃ v66 v70 v75,a1=((a0.put (some 66) v66).put (some 70) v70).put (some 75) v75∧
       aJ (dn D 0=true→dn D 4=false→(∃ y,v66=.slice (some ⟨y,0,none⟩) 0 0)∧AtomsO w' w8.heap.size v66 [])∧
       aJ (dn D 4=true→(∃ A c,v70=.slice A tl.length c)∧AtomsO w' w8.heap.size v70 tl)∧
       aJ (dn D 9=true→∃ y,v75=.slice (some ⟨y,0,none⟩) 1 1∧Blk w' y tA #[.int .i64 x0.kind,.int .i64 x0.a,.int .i64 x0.b]∧(dn D 0=true→dn D 4=false→v66.ownBlock≠some y))) ?start ?steps ?fin
    case start=>exact ⟨(Below.refl _ w8).drew,fun h=>absurd h (by decide),undef,undef,undef,rfl,fun h=>absurd h (by decide),fun h=>absurd h (by decide),fun h=>absurd h (by decide)⟩
    case steps=>
     refine ParSteps.cons rfl (fun D a1 w' hu hd hI hS K' hK G' hG=>?_) (ParSteps.cons rfl (fun D a1 w' hu hd hI hS K' hK G' hG=>?_) (ParSteps.cons rfl (fun D a1 w' hu hd hI hS K' hK G' hG=>?_) ParSteps.nil))
     ·obtain ⟨HW,HC,v66,v70,v75,ha,h0,h4,h9⟩:=hI;rw[ha] at hG;clear ha a1;have u0:=dn_un hu;have u4:dn D 4=false:=by cases e:dn D 4;rfl;have:=HC.o e;rw[u0] at this;cases this
      have HU:=ax u4;clear u0 u4;refine hG ?_;clear hG hd;(try simp only[zz]);go_simp;have hB2:Below w8.heap.size w8 (w'.alloc (.cells #[] tA)):=HW.o.alloc HW.o.size _;have hBw:Below w'.heap.size w' (w'.alloc (.cells #[] tA)):=bbox (Below.refl _ _) _;have hcc:=(HXV.o.bz hB2).cl (k:=0) (by simp);simp only[Nat.zero_mul,Nat.add_zero,Nat.zero_add,List.getElem_cons_zero] at hcc;refine hK.out _ _ ⟨(kx.nz hB2).cell,hcc⟩ ⟨hB2,fun _=>dn_self hu,.slice (some ⟨w'.heap.size,0,none⟩) 0 0,v70,v75,rfl,fun _ _=>⟨⟨_,rfl⟩,(AtomsO.empty w').bq HW.o.size⟩,fun h=>?_,fun h=>?_⟩
      ·rw[dn_ne (by decide)] at h;rw[HU.o] at h;cases h
      ·rw[dn_ne (by decide)] at h;obtain ⟨y,e,hk,-⟩:=h9.o h;exact ⟨y,e,hk.alloc _,fun _ _ e2=>by have:=hk.lt;simp[Value.ownBlock] at e2;omega⟩
     ·obtain ⟨HW,HC,v66,v70,v75,ha,h0,h4,h9⟩:=hI;rw[ha] at hG;clear ha a1;have u4:=dn_un hu;have t0:dn D 0=true:=hd ⟨0,.data⟩ (by simp) (by decide);obtain ⟨⟨y,rfl⟩,o⟩:=h0.o t0 u4;have HO:=ax o;have HU:=ax (And.intro u4 t0);clear u4 t0 o h0 hd;refine hG ?_;clear hG;(try simp only[zz]);rw[if_pos (by simp[Region.wanted])];refine wp_appAL (base:=w8.heap.size) (xs:=[]) (ys:=tl) _ _ rfl rfl HO.o rfl (Rd.tailA (HXV.o.bz HW.o)) (by simp;omega) HW.o.size ?_;intro A' c' w2 o2 hg2 hB2;simp only[List.nil_append] at o2 ⊢;have hB3:Below w8.heap.size w8 w2:=HW.o.trans hB2;have hcc:=(HXV.o.bz hB3).cl (k:=0) (by simp);simp only[Nat.zero_mul,Nat.add_zero,Nat.zero_add,List.getElem_cons_zero] at hcc;refine hK.out _ _ ⟨(kx.nz hB3).cell,hcc⟩ ⟨hB3,fun _=>?_,.slice (some ⟨y,0,none⟩) 0 0,.slice A' tl.length c',v75,rfl,fun _ h=>?_,fun _=>⟨⟨A',c',rfl⟩,o2⟩,fun h=>?_⟩
      ·rw[dn_ne (by decide)];exact HU.o.2
      ·rw[dn_self hu] at h;cases h
      ·rw[dn_ne (by decide)] at h;obtain ⟨z,e,hk,hne⟩:=h9.o h;exact ⟨z,e,hk.grown hg2 (fun e2=>hne HU.o.2 HU.o.1 e2.symm),fun _ h2=>by rw[dn_self hu] at h2;cases h2⟩
     ·obtain ⟨HW,HC,v66,v70,v75,ha,h0,h4,h9⟩:=hI;rw[ha] at hG;clear ha a1;refine hG ?_;clear hG hd;(try simp only[zz]);go_simp;have hB2:Below w8.heap.size w8 (w'.alloc (.cells #[.int .i64 x0.kind,.int .i64 x0.a,.int .i64 x0.b] tA)):=HW.o.alloc HW.o.size _;have hBw:Below w'.heap.size w' (w'.alloc (.cells #[.int .i64 x0.kind,.int .i64 x0.a,.int .i64 x0.b] tA)):=bbox (Below.refl _ _) _;have hcc:=(HXV.o.bz hB2).cl (k:=0) (by simp);simp only[Nat.zero_mul,Nat.add_zero,Nat.zero_add,List.getElem_cons_zero] at hcc;refine hK.out _ _ ⟨(kx.nz hB2).cell,hcc⟩ ⟨hB2,fun h=>?_,v66,v70,.slice (some ⟨w'.heap.size,0,none⟩) 1 1,rfl,fun h h'=>?_,fun h=>?_,fun _=>⟨_,rfl,Blk.new _ _ _,fun h h' e=>?_⟩⟩
      ·rw[dn_ne (by decide)] at h ⊢;exact HC.o h
      ·rw[dn_ne (by decide)] at h h';exact ⟨(h0.o h h').1,(h0.o h h').2.bz hBw⟩
      ·rw[dn_ne (by decide)] at h;exact ⟨(h4.o h).1,(h4.o h).2.bz hBw⟩
      ·rw[dn_ne (by decide)] at h h';have:=((h0.o h h').2.1.lt _ e).2;omega
    case fin=>
     rintro a1 w9 aH ⟨HW,-,v66,v70,v75,rfl,-,h4,h9⟩;obtain ⟨⟨A9,c9,rfl⟩,o9⟩:=h4.o (by decide);obtain ⟨y9,rfl,ky9,-⟩:=h9.o (by decide);have HO9:=ax o9;clear o9 h4 h9;(try simp only[zz]);refine rdc 10 rfl fun K hK=>?_;skip;(refine stepAL (base:=w8.heap.size) (xs:=tl) (ys:=[x0]) rfl _ _ rfl rfl HO9.o rfl (AtomsV.one (f:=x0) ky9) (by simp;omega) HW.o.size ?_;intro A10 c10 w10 o10 hg10 hB10;have hB11:Below w8.heap.size w8 w10:=HW.o.trans hB10;have hcc:=(HXV.o.bz hB11).cl (k:=0) (by simp);simp only[Nat.zero_mul,Nat.add_zero,Nat.zero_add,List.getElem_cons_zero] at hcc);refine hK.out _ _ (⟨(kx.nz hB11).cell,hcc⟩) ?_;clear aH hK K;intro aH;(try simp only[zz]);rw[List.length_append,List.length_singleton] at o10;have HO10:=ax o10;have hsz8:=HF.o.size;have kx10:=kx.nz hB11;have k110:=k1.nz hB11;have HF10:=ax (HF.o.go hB11);have HR10:=ax (HR.o.bz hB11);have HFO10:=ax (HFO.o.bz hB11);clear o10 hg10 hB10 HW HO9 ky9 HO2 kx k1 HF HR HFO qk1 rk1 lk1 qkx rkx lkx z0 z1 z2;(replace qk110:=k110.cell;replace rk110:=k110.frozen;replace lk110:=k110.lt;replace qkx10:=kx10.z);refine tk2 11 rfl aH (h:=?_);(try simp only[zz]);refine rdc 12 rfl fun K hK=>?_;go_simp;refine hK.out _ _ (⟨kx10.cell,hcc⟩) (fun aH=>?_);clear hK K;refine wpAnyH_done (by kernel_rfl) ?_ _;unfold lastQ;go_simp;refine NoPanic.normal ?_;have hne:X≠w.heap.size+1:=by omega
     have kx11:=kx10.set_ 1 (.slice A10 (tl.length+1) c10);have k111:=k110.far (p:=⟨X,1,none⟩) (by simp only;omega) (.slice A10 (tl.length+1) c10);have HO11:=ax (HO10.o.setT kx10 (by decide) 1 (.slice A10 (tl.length+1) c10));have HFO11:=ax (HFO10.o.setT kx10 (by decide) 1 (.slice A10 (tl.length+1) c10));have HR11:=ax (HR10.o.set_ (q:=⟨X,1,none⟩) (by simp only;omega) (.slice A10 (tl.length+1) c10));have HF11:=ax (HF10.o.set_ (p:=⟨X,1,none⟩) (Or.inr (by simp only;omega)) (.slice A10 (tl.length+1) c10));clear hcc aH;(go_wp2_with fail)
     first
     | (refine bodyPost_ret (v:=.agg #[.slice F fs.length e1,.slice A10 (tl.length+1) c10]) (by simp[results,Tryz.results101,go_sem,qk110]) rfl ⟨_,rfl,⟨fs,tl++[x0]⟩,⟨F,e1,A10,c10,by simp,?_,?_⟩,hfl,by simp;omega,q,?_,by omega,?_⟩)
     | (refine bodyPost_ret (v:=.agg #[.slice F fs.length e1,.slice A10 (tl.length+1) c10]) (by simp[results,Tryz.results101,go_sem,qk110]) rfl ⟨_,⟨fs,tl++[x0]⟩,q,rfl,⟨F,e1,A10,c10,by simp,?_,?_⟩,hfl,by simp;omega,?_,by omega,?_⟩)
     ·exact HREL.o.rj ((HFO11.o.setT k111 (by decide) 0 _).setT (k111.set_ 0 _) (by decide) 1 _)
     ·exact (((((HO11.o.bq (base':=w.heap.size) (by omega)).setT k111 (by decide) 0 _).setT (k111.set_ 0 _) (by decide) 1 _)).reads2)
     ·exact (HR11.o.set_ (q:=⟨w.heap.size+1,0,none⟩) (by simp only;omega) _).set_ (q:=⟨w.heap.size+1,1,none⟩) (by simp only;omega) _
     ·exact (HF11.o.set_ (p:=⟨w.heap.size+1,0,none⟩) (Or.inr (by simp only;omega)) _).set_ (p:=⟨w.heap.size+1,1,none⟩) (Or.inr (by simp only;omega)) _
   have hm8b:((m8:Int) == 0)=false:=by simpa using hm80
   clear hm80 hm8;have hne:X≠w.heap.size+1:=by omega
   go_wp2_with fail
   first
   | (refine bodyPost_ret (v:=.agg #[.slice F fs.length e1,.slice G xs.length d1]) (by simp[results,Tryz.results101,go_sem,qk1]) rfl ⟨_,rfl,⟨fs,xs⟩,⟨F,e1,G,d1,rfl,?_,?_⟩,hfl,hxl,q,?_,by omega,?_⟩)
   | (refine bodyPost_ret (v:=.agg #[.slice F fs.length e1,.slice G xs.length d1]) (by simp[results,Tryz.results101,go_sem,qk1]) rfl ⟨_,⟨fs,xs⟩,q,rfl,⟨F,e1,G,d1,rfl,?_,?_⟩,hfl,hxl,?_,by omega,?_⟩)
   ·exact HREL.o.rj ((HFO.o.setT k1 (by decide) 0 _).setT (k1.set_ 0 _) (by decide) 1 _)
   ·exact ((((HO2.o.setT k1 (by decide) 0 _).setT (k1.set_ 0 _) (by decide) 1 _)).readsI).2
   ·exact (HR.o.set_ (q:=⟨w.heap.size+1,0,none⟩) (by simp only;omega) _).set_ (q:=⟨w.heap.size+1,1,none⟩) (by simp only;omega) _
   ·exact (HF.o.set_ (p:=⟨w.heap.size+1,0,none⟩) (Or.inr (by simp only;omega)) _).set_ (p:=⟨w.heap.size+1,1,none⟩) (Or.inr (by simp only;omega)) _
end
end Go.Proofs.YtjaohekkmlkinaaGreat
