/- Programs: marks. -/
import Derived.Test.YtgdfdmjnadnlnaaGreatMCmdG
set_option linter.unusedSimpArgs false
set_option linter.unusedVariables false
set_option maxRecDepth 100000
set_option maxHeartbeats 25600000
namespace Go.Proofs.YtgdfdmjnadnlnaaGreat
section
open Go Go.RowKit Go.Proofs
def Cms.marks:Cms→Nat
 | .nil=>0
 | .cons _ _ _ _ i body els r=>6+3 * i.facts.length+3 * i.atoms.length+body.marks+els.marks+r.marks
theorem Cms.marks_le:∀ (L:Cms),L.marks≤6 * (L.len+L.cost)
 | .nil=>by simp[Cms.marks]
 | .cons k a b t i body els r=>by
  have h1:=Cms.marks_le body;have h2:=Cms.marks_le els;have h3:=Cms.marks_le r;simp only[Cms.marks,Cms.len,Cms.cost];omega
def set6 (w:World) (g o:Nat) (u0 u1 u2 u3 u4 u5:Value):World:=(((((w.setCell ⟨g,o,none⟩ u0).setCell ⟨g,o+1,none⟩ u1).setCell ⟨g,o+2,none⟩ u2).setCell ⟨g,o+3,none⟩ u3).setCell ⟨g,o+3+1,none⟩ u4).setCell ⟨g,o+3+2,none⟩ u5
theorem six {w:World} {g:Nat} {cs:Array Value} (h:Blk w g tC cs) (o:Nat) (u0 u1 u2 u3 u4 u5:Value):Mk (fun x=>g≤x∧x<g+1) w (set6 w g o u0 u1 u2 u3 u4 u5)∧∃ cs',Blk (set6 w g o u0 u1 u2 u3 u4 u5) g tC cs'∧cs'.size=cs.size∧∀ x,o+6≤x→cs'[x]? = cs[x]?:=by
 refine ⟨Mk.set (Mk.set (Mk.set (Mk.set (Mk.set (Mk.set (Mk.refl _ _) ⟨by simp,by simp⟩ _) ⟨by simp,by simp⟩ _) ⟨by simp,by simp⟩ _) ⟨by simp,by simp⟩ _) ⟨by simp,by simp⟩ _) ⟨by simp,by simp⟩ _,_,(((((h.set_ o u0).set_ (o+1) u1).set_ (o+2) u2).set_ (o+3) u3).set_ (o+3+1) u4).set_ (o+3+2) u5,by simp,fun x hx=>?_⟩
 iterate 6 rw[Array.getElem?_setIfInBounds_ne (by omega)]
theorem markCmdS_go:∀ (N:Nat) (L:Cms),L.sz<N→∀ (lo hi:Nat) (v:Value) (k0:Int) (w:World),CmsO w lo hi v L→0≤k0→k0+L.marks≤549755813888→
  Calls Tryz.prog 23 #[v,.int .i64 k0] w fun e w'=>e=.returned (.int .i64 (k0+L.marks))∧Mk (fun g=>lo≤g∧g<hi) w w':=by
 intro N
 induction N with
 | zero=>intro L h;omega
 | succ N IH=>
  intro L hsz lo hi v k0 w hO h0 h1;replace IH:=ax IH;replace hsz:=ax hsz;obtain ⟨g,cs0,rfl,hlo,hK0,hs0,hlen,hC0⟩:=hO;have hghi:g<hi:=hC0.le;obtain ⟨n,hn⟩:∃ n,n=L.len:=⟨_,rfl⟩;obtain ⟨tot,htot⟩:∃ tot,tot=L.marks:=⟨_,rfl⟩;rw[←hn] at hlen hs0 ⊢;rw[←htot] at h1 ⊢;replace hn:=ax hn;replace htot:=ax htot;replace hC0:=ax hC0;replace hs0:=ax hs0;(go_enter Tryz.func23,Tryz.ntmps23);(go_wp2_with fail)
  go_loopw [1,5] (fun x i wr=>∃ (j m lo1:Nat) (cs:Array Value),j≤n∧i=.int .i64 j∧x=.int .i64 (k0+m)∧Hid (m+(L.drop j).marks=tot)∧m≤tot∧Hid (cs.size=n * 10)∧Blk wr g tC cs∧g+1≤lo1∧Hid (CmsOAt wr (L.drop j) cs (j * 10) lo1 hi)∧Mk (fun g=>lo≤g∧g<hi) w wr) (fun _ i _=>n - (intOf i).toNat)
  case atStart=>exact ⟨0,0,g+1,cs0,Nat.zero_le _,rfl,by simp,ax (by rw[htot.out];simp[Cms.drop]),Nat.zero_le _,hs0,hK0,Nat.le_refl _,ax (by simpa [Cms.drop] using hC0.out),Mk.refl _ _⟩
  case round=>
   obtain ⟨j,m,lo1,cs,hj,rfl,rfl,hM,hmt,HS,hK,hlo1,HC,hMk⟩:=hrel;clear hK0;by_cases hlt:j<n
   ·have hpos:0<(L.drop j).len:=by rw[Cms.drop_len,←hn.out];omega
    obtain ⟨k,a,b,t,i,body,els,r,eL⟩:=Cms.cons_of_len hpos;have hD:=HC.out;have hZ:=Cms.sz_drop j L;have hDs:=Cms.drop_succ j L eL;have hM':=hM.out;rw[eL] at hD hZ hM';obtain ⟨vF,vA,gB,gE,csB,csE,m1,m2,m3,⟨t0,t1,t2,t3,t4,t5,t6,t7,t8,t9⟩,⟨e1,fv,av,ef,xF,xA⟩,xB,xE,xr⟩:=hD;injection ef with ef;injection ef with ef;injection ef with ef ea;injection ea with ea;subst ef ea;have hd:=xF.1.ne_atoms xA.1;obtain ⟨AF,cF,rfl⟩:=xF.form;obtain ⟨AA,cA,rfl⟩:=xA.form;have lF:i.facts.length≤1049600:=xF.1.2;have lA:i.atoms.length≤1049600:=xA.1.2;have xB:CmsO wr m1 m2 (.slice (some ⟨gB,0,none⟩) body.len body.len) body:=⟨gB,csB,rfl,xB⟩;have xE:CmsO wr m2 m3 (.slice (some ⟨gE,0,none⟩) els.len els.len) els:=⟨gE,csE,rfl,xE⟩;have i1:m1≤m2:=by obtain ⟨_,_,_,z1,_,_,_,z2⟩:=xB;have:=z2.le;omega
    have i2:m2≤m3:=by obtain ⟨_,_,_,z1,_,_,_,z2⟩:=xE;have:=z2.le;omega
    have i3:m3≤hi:=xr.le;simp only[Cms.sz] at hZ;have hbs:body.sz<N:=by have:=hsz.out;omega
    have hes:els.sz<N:=by have:=hsz.out;omega
    simp only[Cms.marks] at hM';have c0:wr.cell? ⟨g,j * 10,none⟩=some (.int .i64 k):=by rw[hK.cell,t0]
    have c1:wr.cell? ⟨g,j * 10+1,none⟩=some (.int .i64 a):=by rw[hK.cell,t1]
    have c2:wr.cell? ⟨g,j * 10+2,none⟩=some (.int .i64 b):=by rw[hK.cell,t2]
    have c3:wr.cell? ⟨g,j * 10+3,none⟩=some (.bool t.eq):=by rw[hK.cell,t3]
    have c4:wr.cell? ⟨g,j * 10+4,none⟩=some (.int .i64 t.a):=by rw[hK.cell,t4]
    have c5:wr.cell? ⟨g,j * 10+5,none⟩=some (.int .i64 t.b):=by rw[hK.cell,t5]
    have c6:wr.cell? ⟨g,j * 10+6,none⟩=some (.slice AF i.facts.length cF):=by rw[hK.cell,t6]
    have c7:wr.cell? ⟨g,j * 10+7,none⟩=some (.slice AA i.atoms.length cA):=by rw[hK.cell,t7]
    have c8:wr.cell? ⟨g,j * 10+8,none⟩=some (.slice (some ⟨gB,0,none⟩) body.len body.len):=by rw[hK.cell,t8]
    have c9:wr.cell? ⟨g,j * 10+9,none⟩=some (.slice (some ⟨gE,0,none⟩) els.len els.len):=by rw[hK.cell,t9]
    have r2:=hK.frozen;replace hbs:=ax hbs;replace hes:=ax hes;replace hd:=ax hd;replace xF:=ax xF;replace xA:=ax xA;replace xB:=ax xB;replace xE:=ax xE;replace xr:=ax xr;replace hDs:=ax hDs;replace hM':=ax hM';replace t7:=ax t7;replace t8:=ax t8;replace t9:=ax t9;clear hZ hpos eL t0 t1 t2 t3 t4 t5 t6 hM HC;have q1:k0+m+6≤549755813888:=by have:=hM'.out;omega
    (go_wp2_with fail);have hsix:=six hK (j * 10) (.int .i64 (k0+m)) (.int .i64 (k0+m+1)) (.int .i64 (k0+m+1+1)) (.bool ((k0+m+1+1+1) % 3 == 0)) (.int .i64 (k0+m+1+1+1+1)) (.int .i64 (k0+m+1+1+1+1+1))
    change Calls _ _ _ (set6 wr g (j * 10) (.int .i64 (k0+m)) (.int .i64 (k0+m+1)) (.int .i64 (k0+m+1+1)) (.bool ((k0+m+1+1+1) % 3 == 0)) (.int .i64 (k0+m+1+1+1+1)) (.int .i64 (k0+m+1+1+1+1+1))) _
    generalize set6 wr g (j * 10) (.int .i64 (k0+m)) (.int .i64 (k0+m+1)) (.int .i64 (k0+m+1+1)) (.bool ((k0+m+1+1+1) % 3 == 0)) (.int .i64 (k0+m+1+1+1+1)) (.int .i64 (k0+m+1+1+1+1+1))=V at hsix ⊢;obtain ⟨M6,cs',hKV,hsz',hfar⟩:=hsix;replace hfar:=ax hfar;replace hsz':=ax hsz';clear c0 c1 c2 c3 c4 c5 c6 c7 c8 c9 r2 hK;have b1:=hM'.out;refine (c_markFactS _ i.facts _ lo1 V (xF.out.mk M6 (by omega)).1 (by omega) (by omega)).mono ?_;rintro e w1 ⟨rfl,-,hM1⟩;have hM1':Mk (fun x=>lo1≤x∧x<m1) V w1:=hM1.mono fun x e=>⟨(xF.out.1.1.lt x e).1,xF.out.2 x e⟩;have hK1:=hM1'.blk hKV (by omega);have oA:=((xA.out.mk M6 (by omega)).1.mk hM1 (fun x e1 e2=>hd.out x e2 e1));have MA:Mk (fun x=>g≤x∧x<m1) wr w1:=(M6.mono fun x hx=>by omega).trans (hM1'.mono fun x hx=>by omega);clear hM1 hM1' hKV M6;replace oA:=ax oA;replace MA:=ax MA;have c7:w1.cell? ⟨g,j * 10+7,none⟩=some (.slice AA i.atoms.length cA):=by rw[hK1.cell,hfar.out _ (by omega),t7.out]
    (go_wp2_with fail);have b1:=hM'.out;refine (c_markAtomS _ i.atoms _ lo1 w1 oA.out (by omega) (by omega)).mono ?_;rintro e w2 ⟨rfl,-,hM2⟩;have hM2':Mk (fun x=>lo1≤x∧x<m1) w1 w2:=hM2.mono fun x e=>⟨(xA.out.1.1.lt x e).1,xA.out.2 x e⟩;have hK2:=hM2'.blk hK1 (by omega);have MB:Mk (fun x=>g≤x∧x<m1) wr w2:=MA.out.trans (hM2'.mono fun x hx=>by omega);clear hM2 hM2' c7 oA;replace MB:=ax MB;have c8:w2.cell? ⟨g,j * 10+8,none⟩=some (.slice (some ⟨gB,0,none⟩) body.len body.len):=by rw[hK2.cell,hfar.out _ (by omega),t8.out]
    (go_wp2_with fail);have b1:=hM'.out;refine (IH.out body hbs.out m1 m2 _ _ w2 (xB.out.mk MB.out (by omega)) (by omega) (by omega)).mono ?_;rintro e w3 ⟨rfl,hM3⟩;have hK3:=hM3.blk hK2 (by omega);have MC:Mk (fun x=>g≤x∧x<m2) wr w3:=(MB.out.mono fun x hx=>by omega).trans (hM3.mono fun x hx=>by omega);clear hM3 c8;replace MC:=ax MC;have c9:w3.cell? ⟨g,j * 10+9,none⟩=some (.slice (some ⟨gE,0,none⟩) els.len els.len):=by rw[hK3.cell,hfar.out _ (by omega),t9.out]
    (go_wp2_with fail);have b1:=hM'.out;refine (IH.out els hes.out m2 m3 _ _ w3 (xE.out.mk MC.out (by omega)) (by omega) (by omega)).mono ?_;rintro e w4 ⟨rfl,hM4⟩;have hK4:=hM4.blk hK3 (by omega);have MD:Mk (fun x=>g≤x∧x<m3) wr w4:=(MC.out.mono fun x hx=>by omega).trans (hM4.mono fun x hx=>by omega);clear hM4 c9;replace MD:=ax MD;(go_wp2_with fail);have b1:=hM'.out
    go_round
    case rel=>
     refine ⟨j+1,m+6+3 * i.facts.length+3 * i.atoms.length+body.marks+els.marks,m3,cs',by omega,by go_num,by push_cast;congr 1;omega,ax (by rw[hDs.out];omega),by omega,ax (by rw[hsz'.out,HS.out]),hK4,by omega,ax ?_,hMk.trans (MD.out.mono fun x hx=>by omega)⟩;rw[hDs.out,show (j+1) * 10=j * 10+10 from by omega];exact (xr.out.mk MD.out (by omega)).cells fun x z1 z2=>hfar.out x (by omega)
    case measure=>simp[intOf];omega
   ·(go_wp2_with fail);go_ret;obtain rfl:j=n:=by omega
    have e1:L.drop j=.nil:=by rw[hn.out];exact Cms.drop_all L
    have h2:=hM.out;rw[e1] at h2;simp only[Cms.marks,Nat.add_zero] at h2;subst h2;exact ⟨rfl,hMk⟩
end
end Go.Proofs.YtgdfdmjnadnlnaaGreat
