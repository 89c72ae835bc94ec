/- Programs: what impl gathers over all commands. -/
import Derived.Test.YtjaohekkmlkinaaGreatMFrmI
import Derived.IntWalk
import Derived.Deep.DeepCutAuto
set_option linter.unusedSimpArgs false
set_option linter.unusedVariables false
set_option maxRecDepth 100000
set_option maxHeartbeats 25600000
namespace Go.Proofs.YtjaohekkmlkinaaGreat
section
open Go Go.RowKit Go.Proofs
abbrev tTS2:Nat:=100
theorem c_loClo {lo hi:Nat} (S g:Nat) (hS:S<512) (k a b:Int) (t:Fct) (i:Asn) (A1 A2 A3 A4:Option Addr) (c1 c2 c3 c4:Nat) (body els:Cms) (w:World) (hA:AsnV w lo hi (.agg #[.slice A1 i.facts.length c1,.slice A2 i.atoms.length c2]) i) (hK:Blk w g tTS2 #[.int .u16 (S:Nat)]) :
  Calls Tryz.prog 137 #[.agg #[.int .i64 k,.int .i64 a,.int .i64 b,.bool t.eq,.int .i64 t.a,.int .i64 t.b,.slice A1 i.facts.length c1,.slice A2 i.atoms.length c2,.slice A3 body.len c3,.slice A4 els.len c4],.pointer (some ⟨g,0,none⟩)] w fun e w'=>(∃ v,e=.returned v)∧Blk w' g tTS2 #[.int .u16 (loF S k a b t i:Nat)]∧Mk (fun x=>x=g) w w':=by
 have hg:=hK.lt;replace hA:=ax hA;obtain ⟨S1,hS1⟩:∃ x,x=tins S a:=⟨_,rfl⟩;obtain ⟨S2,hS2⟩:∃ x,x=tins S1 b:=⟨_,rfl⟩;obtain ⟨S3,hS3⟩:∃ x,x=tins S2 t.a:=⟨_,rfl⟩;obtain ⟨S4,hS4⟩:∃ x,x=tins S3 t.b:=⟨_,rfl⟩;have l1:S1<512:=by rw[hS1];exact tins_lt hS _
 have l2:S2<512:=by rw[hS2];exact tins_lt l1 _
 have l3:S3<512:=by rw[hS3];exact tins_lt l2 _
 have l4:S4<512:=by rw[hS4];exact tins_lt l3 _
 obtain ⟨T,hT⟩:∃ x,x=tset (mz i):=⟨_,rfl⟩;have lT:T<512:=by rw[hT];exact tset_lt _
 have HE:aJ (loF S k a b t i=S4|||T):=by show _=_;rw[hS4,hS3,hS2,hS1,hT];rfl
 have hU:=u16_or_nat S4 T (by omega) (by omega);replace hS1:=ax hS1;replace hS2:=ax hS2;replace hS3:=ax hS3;replace hS4:=ax hS4;replace hT:=ax hT;(go_enter Tryz.func137,Tryz.ntmps137);have k0:Blk (w.alloc (.cells #[.int .i64 k,.int .i64 a,.int .i64 b,.bool t.eq,.int .i64 t.a,.int .i64 t.b,.slice A1 i.facts.length c1,.slice A2 i.atoms.length c2,.slice A3 body.len c3,.slice A4 els.len c4] tC)) w.heap.size tC #[.int .i64 k,.int .i64 a,.int .i64 b,.bool t.eq,.int .i64 t.a,.int .i64 t.b,.slice A1 i.facts.length c1,.slice A2 i.atoms.length c2,.slice A3 body.len c3,.slice A4 els.len c4]:=Blk.new _ _ _;have k1:Blk (w.alloc (.cells #[.int .i64 k,.int .i64 a,.int .i64 b,.bool t.eq,.int .i64 t.a,.int .i64 t.b,.slice A1 i.facts.length c1,.slice A2 i.atoms.length c2,.slice A3 body.len c3,.slice A4 els.len c4] tC)) g tTS2 #[.int .u16 (S:Nat)]:=hK.alloc _;have hgne:g≠w.heap.size:=by omega
 (go_wp2_with fail);refine wp_region_noPanic ?_;refine wp_region_last' (S:=(fun w'=>(∀ j,w'.cell? ⟨w.heap.size,j,none⟩=#[.int .i64 k,.int .i64 a,.int .i64 b,.bool t.eq,.int .i64 t.a,.int .i64 t.b,.slice A1 i.facts.length c1,.slice A2 i.atoms.length c2,.slice A3 body.len c3,.slice A4 els.len c4][j]?)∧(∀ j,w'.cell? ⟨g,j,none⟩=#[Value.int .u16 (S:Nat)][j]?)∧(∀ j,w'.frozen? ⟨g,j,none⟩=false))) (by simp) (by kernel_rfl) (by kernel_rfl) (⟨k0.cell,k1.cell,k1.frozen⟩) (fun aH=>?_);simp only[List.dropLast,List.getLast,nopOf,List.cons_append,List.nil_append,List.length_cons,List.length_nil,Nat.zero_add,Nat.reduceAdd];refine tk2 0 rfl aH (h:=tk2 1 rfl aH (h:=tk2 2 rfl aH (h:=?_)));(try simp only[zz]);refine tk2 4 rfl aH (h:=tk2 5 rfl aH (h:=tk2 7 rfl aH (h:=?_)));(try simp only[zz]);refine tk2 8 rfl aH (h:=tk2 9 rfl aH (h:=tk2 11 rfl aH (h:=?_)));(try simp only[zz]);refine tk2 12 rfl aH (h:=tk2 13 rfl aH (h:=tk2 15 rfl aH (h:=?_)));(try simp only[zz]);refine tk2 16 rfl aH (h:=?_);refine rdc 3 rfl fun K hK=>?_;(try simp only[zz]);(go_simp;refine (c_impl_with S a _ hS).mono ?_;rintro e w1 ⟨rfl,rfl⟩;rw[←hS1.o]);refine hK.out _ _ (⟨k0.cell,k1.cell,k1.frozen⟩) ?_;clear aH hK K;intro aH;refine rdc 6 rfl fun K hK=>?_;(try simp only[zz]);(go_simp;refine (c_impl_with S1 b _ l1).mono ?_;rintro e w1 ⟨rfl,rfl⟩;rw[←hS2.o]);refine hK.out _ _ (⟨k0.cell,k1.cell,k1.frozen⟩) ?_;clear aH hK K;intro aH;refine rdc 10 rfl fun K hK=>?_;(try simp only[zz]);(go_simp;refine (c_impl_with S2 t.a _ l2).mono ?_;rintro e w1 ⟨rfl,rfl⟩;rw[←hS3.o]);refine hK.out _ _ (⟨k0.cell,k1.cell,k1.frozen⟩) ?_;clear aH hK K;intro aH;refine rdc 14 rfl fun K hK=>?_;(try simp only[zz]);(go_simp;refine (c_impl_with S3 t.b _ l3).mono ?_;rintro e w1 ⟨rfl,rfl⟩;rw[←hS4.o]);refine hK.out _ _ (⟨k0.cell,k1.cell,k1.frozen⟩) ?_;clear aH hK K;intro aH;refine rdc 17 rfl fun K hK=>?_;(try simp only[zz]);(go_simp;refine (c_impl_termsIn _ i _ (hA.o.bz bel)).mono ?_;rintro e w5 ⟨rfl,hB5⟩;rw[←hT.o];replace k0:=Blk.nz (g:=w.heap.size) blks hB5;replace k1:=Blk.nz (g:=g) (t:=tTS2) (cs:=#[.int .u16 (S:Nat)]) blks hB5;have hBB:=bgo (w:=w) bel hB5);refine hK.out _ _ (⟨k0.cell,k1.cell,k1.frozen⟩) ?_;clear aH hK K;intro aH;(try simp only[zz]);refine tk2 18 rfl aH (h:=?_);(try simp only[zz]);refine rdc 19 rfl fun K hK=>?_;go_simp;refine hK.out _ _ (⟨k0.cell,k1.cell,k1.frozen⟩) (fun aH=>?_);clear hK K;refine wpAnyH_done (by kernel_rfl) ?_ _;unfold lastQ;go_simp;refine NoPanic.normal ?_;(go_wp2_with fail)
 go_end0
 refine ⟨⟨_,rfl⟩,?_,((Mk.below_ (p:=fun x=>x=g) hBB).set (x:=⟨g,0,none⟩) rfl _)⟩;rw[HE.o];exact k1.set_ 0 _
theorem visitLo_go:∀ (N:Nat) (L:Cms),L.sz<N→∀ (A:Option Addr) (c lo hi gS S:Nat) (w:World),CmsV w lo hi A L→L.len≤1049600→L.small 1049600→hi≤gS→S<512→Blk w gS tTS2 #[.int .u16 (S:Nat)]→
  Calls Tryz.prog 136 #[.slice A L.len c,.func (.func 137) #[] #[.pointer (some ⟨gS,0,none⟩)]] w fun e w'=>(∃ v,e=.returned v)∧Blk w' gS tTS2 #[.int .u16 (L.fold loF S:Nat)]∧Mk (fun x=>x=gS) w w':=by
 intro N
 induction N with
 | zero=>intro L h;omega
 | succ N IH=>
  intro L hsz A c lo hi gS S w hV hlen hsm hgS hS hK;replace IH:=ax IH;replace hsm:=ax hsm;replace hsz:=ax hsz;obtain ⟨n,hn⟩:∃ n,n=L.len:=⟨_,rfl⟩;rw[←hn];rw[←hn] at hlen;replace hn:=ax hn;have hgl:=hK.lt;replace hV:=ax hV;(go_enter Tryz.func136,Tryz.ntmps136);(go_wp2_with fail)
  go_loopw [8] (fun x wr=>∃ (j S1:Nat),j≤n∧x=.int .i64 j∧S1<512∧aJ (L.fold loF S=(L.drop j).fold loF S1)∧Blk wr gS tTS2 #[.int .u16 (S1:Nat)]∧Mk (fun x=>x=gS) w wr) (fun x _=>n - (intOf x).toNat)
  case atStart=>exact ⟨0,S,Nat.zero_le _,rfl,hS,ax rfl,hK,Mk.refl _ _⟩
  case round=>
   clear hK;obtain ⟨j,S1,hj,rfl,hS1,HR,kS,hM⟩:=hrel;by_cases hlt:j<n
   ·have hpos:0<(L.drop j).len:=by rw[Cms.drop_len,←hn.o];omega
    obtain ⟨k,a,b,t,i,body,els,r,eL⟩:=Cms.cons_of_len hpos;obtain ⟨bl,o,rfl,-,-,hAt⟩:=(hV.o.mk1 hM hgS hgl) (by rw[←hn.o];omega);have hD:=hAt.drop j;have hS:=Cms.small_drop j hsm.o;have hZ:=Cms.sz_drop j L;have hDs:=Cms.drop_succ j L eL;have HR':=HR.o;rw[eL] at hD hS hZ HR';obtain ⟨⟨p0,p1,p2,p3,p4,p5⟩,⟨A6,c6,p6,g6⟩,⟨A7,c7,p7,g7⟩,⟨A8,c8,p8,g8⟩,⟨A9,c9,p9,g9⟩,-⟩:=hD;obtain ⟨s1,s2,s3,s4,s5,s6,-⟩:=hS;simp only[Cms.sz] at hZ;have hbs:body.sz<N:=by have:=hsz.o;omega
    have hes:els.sz<N:=by have:=hsz.o;omega
    have gA:aJ (AsnV wr lo hi (.agg #[.slice A6 i.facts.length c6,.slice A7 i.atoms.length c7]) i):=⟨_,_,_,_,rfl,⟨g6,s1⟩,⟨g7,s2⟩⟩;have gB:aJ (CmsV wr lo hi A8 body):=g8;have gE:aJ (CmsV wr lo hi A9 els):=g9;rw[Cms.fold,←hDs] at HR';obtain ⟨S2,hS2⟩:∃ x,x=loF S1 k a b t i:=⟨_,rfl⟩;have l2:S2<512:=by rw[hS2];exact loF_lt hS1 k a b t i
    obtain ⟨S3,hS3⟩:∃ x,x=body.fold loF S2:=⟨_,rfl⟩;have l3:S3<512:=by rw[hS3];exact Cms.fold_lt (fun S k a b t i h=>loF_lt h k a b t i) body l2
    obtain ⟨S4,hS4⟩:∃ x,x=els.fold loF S3:=⟨_,rfl⟩;have l4:S4<512:=by rw[hS4];exact Cms.fold_lt (fun S k a b t i h=>loF_lt h k a b t i) els l3
    rw[←hS2,←hS3,←hS4] at HR';replace HR':=ax HR';replace hS2:=ax hS2;replace hS3:=ax hS3;replace hS4:=ax hS4;replace hbs:=ax hbs;replace hes:=ax hes;replace s5:=ax s5;replace s6:=ax s6;have hgl1:=kS.lt;have hsne:wr.heap.size≠gS:=by omega
    clear hZ hpos hAt g6 g7 g8 g9 HR hDs eL;(go_wp2_with fail);refine (c_loClo S1 gS hS1 k a b t i A6 A7 A8 A9 c6 c7 c8 c9 body els _ (gA.o.bz bel) (kS.alloc _)).mono ?_;rintro e w1 ⟨⟨v1,rfl⟩,kS1,hM1⟩;rw[←hS2.o] at kS1;have hW:Mk (fun x=>x=gS) wr w1:=(Mk.below_ (bbox (Below.refl _ _) _)).trans hM1;have k0:Blk w1 wr.heap.size tC #[.int .i64 k,.int .i64 a,.int .i64 b,.bool t.eq,.int .i64 t.a,.int .i64 t.b,.slice A6 i.facts.length c6,.slice A7 i.atoms.length c7,.slice A8 body.len c8,.slice A9 els.len c9]:=hM1.blk (Blk.new _ _ _) hsne;have q0:=k0.cell;have l0:=k0.lt;clear hM1 kS gA p0 p1 p2 p3 p4 p5 p6 p7 p8 p9;(go_wp2_with fail);refine (IH.o body hbs.o A8 c8 lo hi gS S2 w1 (gB.o.mk1 hW hgS hgl1) s3 s5.o hgS l2 kS1).mono ?_;rintro e w2 ⟨⟨v2,rfl⟩,kS2,hM2⟩;rw[←hS3.o] at kS2;replace hW:=hW.trans hM2;replace k0:=hM2.blk k0 hsne;replace q0:=k0.cell;replace l0:=k0.lt;clear hM2 kS1;(go_wp2_with fail);refine (IH.o els hes.o A9 c9 lo hi gS S3 w2 (gE.o.mk1 hW hgS hgl1) s4 s6.o hgS l3 kS2).mono ?_;rintro e w3 ⟨⟨v3,rfl⟩,kS3,hM3⟩;rw[←hS4.o] at kS3;replace hW:=hW.trans hM3;clear hM3 kS2 k0 q0 l0;(go_wp2_with fail)
    go_round
    case rel=>exact ⟨j+1,S4,by omega,by go_num,l4,HR',kS3,hM.trans hW⟩
    case measure=>simp[intOf];omega
   ·go_wp2_with fail
    go_end0
    obtain rfl:j=n:=by omega
    have e1:L.drop j=.nil:=by rw[hn.o];exact Cms.drop_all L
    have h2:=HR.o;rw[e1] at h2;exact ⟨⟨_,rfl⟩,by rw[h2];exact kS,hM⟩
theorem c_impl_logicalIn {lo hi:Nat} (L:Cms) (A:Option Addr) (c:Nat) (w:World) (hV:CmsV w lo hi A L) (hhi:hi≤w.heap.size) (hlen:L.len≤1049600) (hsm:L.small 1049600) :
  Calls Tryz.prog 66 #[.slice A L.len c] w fun e w'=>e=.returned (.int .u16 (logS (L.fold loF 0):Nat))∧Below w.heap.size w w':=by
 replace hV:=ax hV;replace hsm:=ax hsm;(go_enter Tryz.func66,Tryz.ntmps66);(go_wp2_with fail);refine (visitLo_go _ L (Nat.lt_succ_self _) A c lo hi w.heap.size 0 _ (hV.o.bz bel) hlen hsm.o hhi (by decide) (Blk.new _ _ _)).mono ?_;rintro e w1 ⟨⟨v1,rfl⟩,kS,hM⟩;have hB:Below w.heap.size w w1:=Below.trans (bbox (Below.refl _ _) _) (hM.bz (fun k hk=>by omega) (by simp));have q0:=kS.cell 0;have l0:=kS.lt;clear hM;(go_wp2_with fail);refine (c_impl_logical _ _ (Cms.fold_lt (fun S k a b t i h=>loF_lt h k a b t i) L (by decide))).mono ?_;rintro e w3 ⟨rfl,rfl⟩;(go_wp2_with fail);go_ret;exact ⟨rfl,hB⟩
def freeK (h:List Int):Option Nat:=(List.range 8).find? fun k:Nat=>!allocB h ((k:Int)+1)
def basicF (s:Ste) (k a b:Int):Ste×Int:=
 if k=1 then (⟨s.values.set (a - 1).toNat (tval s.values b),s.heap⟩,0)
 else if k=2 then if allocB s.heap (tval s.values b) then (⟨s.values.set (a - 1).toNat (cont s.heap (tval s.values b)),s.heap⟩,0) else (s,1)
 else if k=3 then if allocB s.heap (tval s.values a) then (⟨s.values,s.heap.set (tval s.values a - 1).toNat (tval s.values b)⟩,0) else (s,1)
 else if k=4 then match freeK s.heap with
  | some n=>(⟨s.values.set (a - 1).toNat ((n:Int)+1),s.heap.set n 0⟩,0)
  | none=>(s,2)
 else if allocB s.heap (tval s.values a) then (⟨s.values,s.heap.set (tval s.values a - 1).toNat (-1)⟩,0) else (s,1)
def loopF (R:Ste→Nat→Ste×Int×Nat) (t:Fct):Nat→Ste→Nat→Ste×Int×Nat
 | 0,s,f=>(s,3,f)
 | n+1,s,f=>if t.holds s.values then
   (if (R s f).2.1≠0 then R s f else if (R s f).2.2<1 then ((R s f).1,3,(R s f).2.2) else loopF R t n (R s f).1 ((R s f).2.2 - 1))
  else (s,0,f)
def cmdR (k a b:Int) (t:Fct) (RB RE:Ste→Nat→Ste×Int×Nat) (s:Ste) (f:Nat):Ste×Int×Nat:=
 if k=6 then (if t.holds s.values then RB s f else RE s f) else if k=7 then loopF RB t (f+1) s f else ((basicF s k a b).1,(basicF s k a b).2,f)
def cmdF (k a b:Int) (t:Fct) (RB RE:Ste→Nat→Ste×Int×Nat) (s:Ste) (f:Nat):Ste×Int×Nat:=
 if f<1 then (s,3,f) else cmdR k a b t RB RE s (f - 1)
def Cms.run:Cms→Ste→Nat→Ste×Int×Nat
 | .nil,s,f=>(s,0,f)
 | .cons k a b t _ body els r,s,f=>
  if (cmdF k a b t body.run els.run s f).2.1≠0 then cmdF k a b t body.run els.run s f else r.run (cmdF k a b t body.run els.run s f).1 (cmdF k a b t body.run els.run s f).2.2
section
variable {B:Nat} {w a b:World}
end
end
section
open Go Go.RowKit Go.Proofs
attribute [local go_sem ↓] Go.wp_at_zero Go.wp_at_succ
theorem c_entN {lo hi lo' hi':Nat} (v v':Value) (a b:Asn) (w:World) (h:AsnV w lo hi v a) (h':AsnV w lo' hi' v' b) (hhi:hi≤w.heap.size) (hhi':hi'≤w.heap.size):Calls Tryz.prog 27 #[v,v'] w fun e w'=>e=.returned (.bool (entF a b))∧Below w.heap.size w w':=c_impl_Entails v v' a b w h h' hhi hhi'
theorem c_allEntail {lo hi:Nat} (v:Value) (b:Asn) (A:Option Addr) (c:Nat) (ss:List Asn) (w:World) (h:NowV w A ss) (hb:AsnV w lo hi v b) (hhi:hi≤w.heap.size) (hl:ss.length≤1000) :
  Calls Tryz.prog 82 #[.slice A ss.length c,v] w fun e w'=>e=.returned (.bool (ss.all fun p=>entF p b))∧Below w.heap.size w w':=by
 have H:=ax h;have HV:=ax hb;obtain ⟨B1,d1,B2,d2,rfl,-⟩:=hb;clear h;(go_enter Tryz.func82,Tryz.ntmps82);(go_upto_region 1 with fail);refine bx1 (w:=w) (F:=Code.wp _ _ _ _) ?_;rintro W0 k3 HB0 -;replace HB0:=ax HB0;(go_wp2_with fail)
 go_loopw [9] (fun i wr=>∃ j:Nat,j≤ss.length∧i=.int .i64 j∧aJ (∀ p∈ss.take j,entF p b=true)∧aJ (Below w.heap.size w wr)∧Blk wr w.heap.size tAs #[.slice B1 b.facts.length d1,.slice B2 b.atoms.length d2]) (fun i _=>ss.length - (intOf i).toNat)
 case atStart=>exact ⟨0,Nat.zero_le _,rfl,ax (by intro p hp;simp at hp),HB0,k3⟩
 case round=>
  clear k3;obtain ⟨j,hj,rfl,HA,HB,k3⟩:=hrel;have hzr:=HB.o.size;(replace qk3:=k3.z);by_cases hlt:j<ss.length
  ·obtain ⟨g,o,P,p,Q,q,rfl,lb,g0,g1,hC⟩:=H.o.bz HB.o j hlt;have HT:aJ (ss.take (j+1)=ss.take j++[ss[j]]):=ax (List.take_succ_eq_append_getElem hlt);have HM:aJ (ss[j]∈ss):=ax (List.getElem_mem hlt);obtain ⟨s,hs⟩:∃ s,s=ss[j]:=⟨_,rfl⟩;rw[←hs] at g0 g1 hC HT HM;have HC:=ax hC;have hji:(j:Int)<(ss.length:Int):=by omega
   clear hs hC;(go_wp2_with fail);refine (c_entN _ _ s b _ (HC.o.V.bz (bbox (Below.refl _ _) _)) (HV.o.bz (bbox HB.o _)) (by simp) (by simp;omega)).mono ?_;rintro e w2 ⟨rfl,hB2⟩;have HB2:=ax (bgo (bbox HB.o (.cells #[.slice P s.facts.length p,.slice Q s.atoms.length q] tAs)) hB2);have k32:=(k3.alloc (.cells #[.slice P s.facts.length p,.slice Q s.atoms.length q] tAs)).nz hB2;clear hB2 g0 g1 k3;cases he:entF s b
   ·have E:aJ ((ss.all fun p=>entF p b)=false):=ax (by rw[List.all_eq_false];exact ⟨s,HM.o,by simp[he]⟩);clear he;(go_wp2_with fail);go_ret;exact ⟨zjD E.o.symm,HB2.o⟩
   ·have HA2:aJ (∀ p∈ss.take (j+1),entF p b=true):=ax fun p hp=>by
     rw[HT.o] at hp;rcases List.mem_append.1 hp with hp|hp
     ·exact HA.o p hp
     ·obtain rfl:=List.mem_singleton.1 hp;exact he
    clear he;(go_wp2_with fail)
    go_round
    case rel=>exact ⟨j+1,by omega,by go_num,HA2,HB2,k32⟩
    case measure=>simp[intOf];omega
  ·obtain rfl:j=ss.length:=by omega
   have E:aJ ((ss.all fun p=>entF p b)=true):=ax (by rw[List.all_eq_true];intro p hp;exact HA.o p (by rwa [List.take_length]));(go_wp2_with fail);go_ret;exact ⟨zjD E.o.symm,HB.o⟩
theorem Blk.nxt {w w':World} {B g:Nat} {t:TypeId} {cs:Array Value} (h:Blk w g t cs) (hb:Below B w w') (hg:g<B):Blk w' g t cs:=(hb.block g hg).trans h
theorem AsnV.inv {w:World} {lo hi n1 c1 n2 c2:Nat} {A1 A2:Option Addr} {a:Asn} (h:AsnV w lo hi (.agg #[.slice A1 n1 c1,.slice A2 n2 c2]) a):FactsV w lo hi A1 a.facts∧AtomsV w lo hi A2 a.atoms:=by
 obtain ⟨_,_,_,_,e,h1,h2⟩:=h;injection e with e;injection e with e;injection e with e1 e2;injection e2 with e2;injection e1 with e1;injection e2 with e2;subst e1;subst e2;exact ⟨h1,h2⟩
theorem AsnO.inv {w:World} {base:Nat} {u v:Value} {a:Asn} (h:AsnO w base (.agg #[u,v]) a):FactsO w base u a.facts∧AtomsO w base v a.atoms:=by
 obtain ⟨_,_,e,h1,h2⟩:=h;injection e with e;injection e with e;injection e with e1 e2;injection e2 with e2;subst e1;subst e2;exact ⟨h1,h2⟩
theorem c_exListE {lo hi:Nat} (lp:Bool) (K:Nat) (v:Value) (a:Asn) (A:Option Addr) (c:Nat) (w:World) (h:AsnC w lo hi v a) (hhi:hi≤w.heap.size) :
  Calls Tryz.prog 121 #[.agg #[.int .u16 K,.bool lp],v,.slice A 0 c] w fun e w'=>∃ r vs,e=.returned (.tuple #[r,.int .i64 0])∧A2O w' w.heap.size r vs [a]∧Below w.heap.size w w':=by
 have HX:=ax h;obtain ⟨B1,e1,B2,e2,rfl,-⟩:=h;(go_enter Tryz.func121,Tryz.ntmps121);obtain ⟨k3,k4,k8⟩:=blk3 w 106 tAs tAs #[.int .u16 K,.bool lp] #[.slice B1 a.facts.length e1,.slice B2 a.atoms.length e2] #[.slice B1 a.facts.length e1,.slice B2 a.atoms.length e2];have HB:aJ (Below w.heap.size w (((w.alloc (.cells #[.int .u16 K,.bool lp] 106)).alloc (.cells #[.slice B1 a.facts.length e1,.slice B2 a.atoms.length e2] tAs)).alloc (.cells #[.slice B1 a.facts.length e1,.slice B2 a.atoms.length e2] tAs))):=ax (bbox (bbox (bbox (Below.refl _ _) _) _) _);have hz:(((w.alloc (.cells #[.int .u16 K,.bool lp] 106)).alloc (.cells #[.slice B1 a.facts.length e1,.slice B2 a.atoms.length e2] tAs)).alloc (.cells #[.slice B1 a.facts.length e1,.slice B2 a.atoms.length e2] tAs)).heap.size=w.heap.size+3:=by simp
 (go_upto_region 2 with fail);generalize (((w.alloc (.cells #[.int .u16 K,.bool lp] _)).alloc (.cells #[.slice B1 a.facts.length e1,.slice B2 a.atoms.length e2] _)).alloc (.cells #[.slice B1 a.facts.length e1,.slice B2 a.atoms.length e2] _))=W at *;have HN:aJ (NowV W (some ⟨w.heap.size+1+1,0,none⟩) [a]):=ax (NowV.one k8 ((HX.o.bz HB.o).mono0 (by omega)));clear k4 k8;(go_wp2_with fail)
 go_loopw [8,20] (fun s8 ix wr=>ix=.int .i64 0∧s8=.slice (some ⟨w.heap.size+1+1,0,none⟩) 1 1∧wr=W) (fun _ _ _=>0)
 case atStart=>exact ⟨rfl,rfl,rfl⟩
 case round=>
  obtain ⟨rfl,rfl,rfl⟩:=hrel;have hzr:=HB.o.size;clear k3;(go_wp2_with fail);refine (c_copyAsns (some ⟨w.heap.size+1+1,0,none⟩) 1 [a] _ HN.o (by simp)).mono ?_;rintro e w2 ⟨r2,vs,rfl,o2,hB2⟩;have O2:=ax (o2.bq (base':=w.heap.size) hzr);have HB2:=ax (bgo HB.o hB2);obtain ⟨R2,r3,rfl⟩:=o2.form;clear o2 hB2;(go_wp2_with fail);go_ret2;exact ⟨_,vs,rfl,O2.o,HB2.o⟩
theorem c_impl_StrongestE {lo hi lo1 hi1 lo2 hi2:Nat} (v:Value) (a:Asn) (A:Option Addr) (c:Nat) (L:Cms) (B:Option Addr) (cb:Nat) (ks:List Int) (w:World) (h:AsnC w lo hi v a) (hhi:hi≤w.heap.size) (hV:CmsV w lo1 hi1 A L) (hhi1:hi1≤w.heap.size) (hlen:L.len≤1049600) (hsm:L.small 1049600) (hk:IntsV w lo2 hi2 B ks) (hL:L=.nil) :
  Calls Tryz.prog 81 #[v,.slice A L.len c,.slice B ks.length cb] w fun e w'=>∃ r vs,e=.returned (.tuple #[r,.int .i64 (strongP a L ks).1])∧A2O w' w.heap.size r vs (strongP a L ks).2∧Below w.heap.size w w':=by
 have HX:=ax h;have HL:=ax hL;clear hL;obtain ⟨B1,e1,B2,e2,rfl,-⟩:=h;have HC:=ax hV;have HSM:=ax hsm;obtain ⟨S1,hS1⟩:∃ S,S=tset ks:=⟨_,rfl⟩;obtain ⟨S2,hS2⟩:∃ S,S=tset (mz a):=⟨_,rfl⟩;obtain ⟨S3,hS3⟩:∃ S,S=logS (L.fold loF 0):=⟨_,rfl⟩;obtain ⟨K0,hKe⟩:∃ K0,K0=keepE a L ks:=⟨_,rfl⟩;have l1:S1<512:=by rw[hS1];exact tset_lt _
 have l2:S2<512:=by rw[hS2];exact tset_lt _
 have l2':logS S2<512:=logS_lt l2;have l3:S3<512:=by rw[hS3];exact logS_lt (Cms.fold_lt (fun S k a b t i h=>loF_lt h k a b t i) L (by decide))
 have lK:K0<512:=by rw[hKe];exact keepE_lt _ _ _
 have CS:aJ (∀ W,Below w.heap.size w W→Calls Tryz.prog 63 #[.slice B ks.length cb] W fun e w'=>e=.returned (.int .u16 (S1:Nat))∧Below W.heap.size W w'):=ax fun W hW=>by rw[hS1];exact c_impl_setOfTerms B cb ks W (hk.bz hW)
 have CT:aJ (∀ W,Below w.heap.size w W→Calls Tryz.prog 64 #[.agg #[.slice B1 a.facts.length e1,.slice B2 a.atoms.length e2]] W fun e w'=>e=.returned (.int .u16 (S2:Nat))∧Below W.heap.size W w'):=ax fun W hW=>by rw[hS2];exact c_impl_termsIn _ a W (HX.o.V.bz hW)
 have CG:aJ (∀ W,Calls Tryz.prog 65 #[.int .u16 (S2:Nat)] W fun e w'=>e=.returned (.int .u16 (logS S2:Nat))∧Below W.heap.size W w'):=ax fun W=>(c_impl_logical S2 W l2).mono fun e w' ⟨e1,e2⟩=>⟨e1,e2▸Below.refl _ _⟩;have CI:aJ (∀ W,Below w.heap.size w W→Calls Tryz.prog 66 #[.slice A L.len c] W fun e w'=>e=.returned (.int .u16 (S3:Nat))∧Below W.heap.size W w'):=ax fun W hW=>by rw[hS3];exact c_impl_logicalIn L A c W (hV.bz hW) (Nat.le_trans hhi1 hW.size) hlen hsm
 have hor1:=u16_or_nat S1 (logS S2) (by omega) (by omega)
 have hor2:bits .or .u16 ((S1|||logS S2:Nat):Int) (S3:Int)=(K0:Int):=by
  rw[u16_or_nat _ _ (by have:=Nat.or_lt_two_pow (n:=9) l1 l2';omega) (by omega),hKe,hS1,hS2,hS3];rfl
 have HK:=ax hKe
 have CL:aJ (a.valid=true→L.prog=true→∀ W lo hi v,AsnC W lo hi v a→hi≤W.heap.size→Below w.heap.size w W→Calls Tryz.prog 121 #[.agg #[.int .u16 K0,.bool true],v,.slice A L.len c] W fun e w'=>∃ r vs,e=.returned (.tuple #[r,.int .i64 (L.exe true K0 [a]).1])∧A2O w' W.heap.size r vs (L.exe true K0 [a]).2∧Below W.heap.size W w'):=ax fun _ _ W lo hi v h1 h2 _=>by
  rw[HL.o,show Cms.exe true K0 .nil [a]=(0,[a]) by rw[Cms.exe]];exact c_exListE true K0 v a A c W h1 h2
 have HR:aJ (a.valid=true→L.prog=true→ResX 24 (L.exe true K0 [a])):=ax exe_res;obtain ⟨res,hres⟩:∃ q,q=strongP a L ks:=⟨_,rfl⟩;have E0:aJ (res=if a.valid&&L.prog then L.exe true (keepE a L ks) [a] else (5,[])):=ax hres;rw[←hres];replace hres:=ax hres;clear hV hk hS1 hS2 hS3 hKe hsm;(go_enter Tryz.func81,Tryz.ntmps81);(go_upto_region 1 with fail);refine bx1 (w:=w) (F:=Code.wp _ _ _ _) ?_;rintro W k3 hB hz;(replace qk3:=k3.z);(go_wp2_with fail);refine (jz _ a _ (HX.o.V.bz hB)).mono ?_;rintro e w0 ⟨rfl,hq⟩;(replace hB:=bgo hB hq;replace k3:=k3.nz hq;replace qk3:=k3.z);clear hq;cases hv:a.valid
 ·have E:aJ (res=(5,[])):=ax (by rw[E0.o,hv];rfl);clear hv;(go_wp2_with fail);go_ret2;exact ⟨_,_,by rw[E.o];rfl,by rw[E.o];exact A2O.nil _ _,hB⟩
 have HV:=ax hv;clear hv;(go_wp2_with fail);refine (c_impl_ProgramValid L A c _ (HC.o.bz hB) hlen HSM.o).mono ?_;rintro e w0 ⟨rfl,hq⟩;(replace hB:=bgo hB hq;replace k3:=k3.nz hq;replace qk3:=k3.z);clear hq;cases hp:L.prog
 ·have E:aJ (res=(5,[])):=ax (by rw[E0.o,hp];simp);clear hp;(go_wp2_with fail);go_ret2;exact ⟨_,_,by rw[E.o];rfl,by rw[E.o];exact A2O.nil _ _,hB⟩
 have HP:=ax hp;clear hp hz qk3;have hwz:w.heap.size<w0.heap.size:=k3.lt;(go_upto_region 3 with fail);generalize w0=V0 at *
 go_cut [8] (fun s8 wc=>∃ z:Nat,s8=.pointer (some ⟨z,0,none⟩)∧w.heap.size<z∧Blk wc z 106 #[.int .u16 K0,.bool true]∧Blk wc w.heap.size tAs #[.slice B1 a.facts.length e1,.slice B2 a.atoms.length e2]∧aJ (Below w.heap.size w wc))
 case first=>
  refine wp_region_noPanic ?_;refine wp_region_held_drew (S:=(fun w'=>∀ q,w'.cell? ⟨w.heap.size,q,none⟩=#[.slice B1 a.facts.length e1,.slice B2 a.atoms.length e2][q]?)) (by kernel_rfl) (k3.drew.cell) (fun aH=>?_);have hq:=(Below.refl V0.heap.size V0).drew;(replace hB:=bgo hB hq;replace k3:=k3.nz hq);clear hq;generalize V0.drew=V at *;have zl0:w.heap.size<V.heap.size:=k3.lt;refine tk2 0 rfl aH (h:=tk2 2 rfl aH (h:=tk2 6 rfl aH (h:=?_)));(try simp only[zz]);refine wpAnyH_ready (rs:=[1,10]) (by kernel_rfl) (by simp) (AllReadyH.cons rfl (fun K hK=>?_) (AllReadyH.cons rfl (fun K hK=>?_) AllReadyH.nil))
  ·(try simp only[zz]);(go_simp;refine (CS.o _ hB).mono ?_;rintro e w1 ⟨rfl,hq⟩;have zl1:w.heap.size<w1.heap.size:=(k3.nz hq).lt;replace k3:=k3.nz hq;replace hB:=bgo hB hq;clear hq);refine hK.out _ _ (k3.cell) ?_;clear aH hK K;intro aH;(try simp only[zz]);refine wpAnyH_ready (rs:=[3,10]) (by kernel_rfl) (by simp) (AllReadyH.cons rfl (fun K hK=>?_) (AllReadyH.cons rfl (fun K hK=>?_) AllReadyH.nil))
   ·(try simp only[zz]);(go_simp;refine (CT.o _ hB).mono ?_;rintro e w2 ⟨rfl,hq⟩;have zl2:w.heap.size<w2.heap.size:=(k3.nz hq).lt;replace k3:=k3.nz hq;replace hB:=bgo hB hq;clear hq);refine hK.out _ _ (k3.cell) ?_;clear aH hK K;intro aH;(try simp only[zz]);refine wpAnyH_ready (rs:=[4,10]) (by kernel_rfl) (by simp) (AllReadyH.cons rfl (fun K hK=>?_) (AllReadyH.cons rfl (fun K hK=>?_) AllReadyH.nil))
    ·(try simp only[zz]);(go_simp;refine (CG.o _).mono ?_;rintro e w3 ⟨rfl,hq⟩;have zl3:w.heap.size<w3.heap.size:=(k3.nz hq).lt;replace k3:=k3.nz hq;replace hB:=bgo hB hq;clear hq);refine hK.out _ _ (k3.cell) ?_;clear aH hK K;intro aH;(try simp only[zz]);refine tk2 5 rfl aH (h:=?_);(try simp only[zz]);refine wpAnyH_ready (rs:=[7,10]) (by kernel_rfl) (by simp) (AllReadyH.cons rfl (fun K hK=>?_) (AllReadyH.cons rfl (fun K hK=>?_) AllReadyH.nil))
     ·(try simp only[zz]);(go_simp;refine (CI.o _ hB).mono ?_;rintro e w4 ⟨rfl,hq⟩;have zl4:w.heap.size<w4.heap.size:=(k3.nz hq).lt;replace k3:=k3.nz hq;replace hB:=bgo hB hq;clear hq);refine hK.out _ _ (k3.cell) ?_;clear aH hK K;intro aH;(try simp only[zz]);refine tk2 8 rfl aH (h:=tk2 9 rfl aH (h:=?_));refine rdc 10 rfl fun K hK=>?_;(try simp only[zz]);go_simp;refine hK.out _ _ ((k3.alloc (.cells #[.int .u16 0,.bool false] 106)).cell) ?_;clear aH hK K;intro aH;refine rdc 11 rfl fun K hK=>?_;(try simp only[zz]);(go_simp;have hq:=bbox (Below.refl _ w4) (.cells #[.int .u16 K0,.bool true] 106);have kb:=Blk.new w4 106 #[.int .u16 K0,.bool true];replace k3:=k3.nz hq;replace hB:=bgo hB hq;clear hq);refine hK.out _ _ (k3.cell) ?_;clear aH hK K;intro aH;(try simp only[zz]);refine dn1 ?_;(go_wp2_with fail);go_meet
      case rel=>exact ⟨w4.heap.size,rfl,by first|omega|(have:=hB.size;simp at this;omega),kb,k3,ax hB⟩
     ·(try simp only[zz]);(go_simp;have hq:=bbox (Below.refl _ w3) (.cells #[.int .u16 0,.bool false] 106);replace k3:=k3.nz hq;replace hB:=bgo hB hq;clear hq);refine hK.out _ _ (k3.cell) ?_;clear aH hK K;intro aH;(try simp only[zz]);have kb:=Blk.new w3 106 #[.int .u16 0,.bool false];have hlz:w.heap.size≤w3.heap.size:=by first|exact Nat.le_refl _|exact hB.size|(have:=hB.size;simp at this;omega)
      refine rdc 7 rfl fun K hK=>?_;(try simp only[zz]);(go_simp;refine (CI.o _ hB).mono ?_;rintro e w4 ⟨rfl,hq⟩;have zl4:w.heap.size<w4.heap.size:=(k3.nz hq).lt;replace k3:=k3.nz hq;replace kb:=kb.nz hq;replace hB:=bgo hB hq;clear hq);refine hK.out _ _ (k3.cell) ?_;clear aH hK K;intro aH;(try simp only[zz]);refine tk2 8 rfl aH (h:=tk2 9 rfl aH (h:=?_));(try simp only[zz]);have hlb:=kb.lt;have ql:=kb.cell;have rl:=kb.frozen;have hn0:w.heap.size≠w3.heap.size:=by omega
      refine rdc 11 rfl fun K hK=>?_;(try simp only[zz]);(go_simp;replace k3:=(k3.far (p:=⟨w3.heap.size,0,none⟩) (fun e=>hn0 e) (.int .u16 K0)).far (p:=⟨w3.heap.size,1,none⟩) (fun e=>hn0 e) (.bool true);replace hB:=(hB.setCell (p:=⟨w3.heap.size,0,none⟩) (by simp only;omega) (.int .u16 K0)).setCell (p:=⟨w3.heap.size,1,none⟩) (by simp only;omega) (.bool true);replace kb:=(kb.set_ 0 (.int .u16 K0)).set_ 1 (.bool true));refine hK.out _ _ (k3.cell) ?_;clear aH hK K;intro aH;(try simp only[zz]);refine dn1 ?_;(go_wp2_with fail);go_meet
      case rel=>exact ⟨w3.heap.size,rfl,by first|omega|(have:=hB.size;simp at this;omega),kb,k3,ax hB⟩
    ·(try simp only[zz]);(go_simp;have hq:=bbox (Below.refl _ w2) (.cells #[.int .u16 0,.bool false] 106);replace k3:=k3.nz hq;replace hB:=bgo hB hq;clear hq);refine hK.out _ _ (k3.cell) ?_;clear aH hK K;intro aH;(try simp only[zz]);have kb:=Blk.new w2 106 #[.int .u16 0,.bool false];have hlz:w.heap.size≤w2.heap.size:=by first|exact Nat.le_refl _|exact hB.size|(have:=hB.size;simp at this;omega)
     refine rdc 4 rfl fun K hK=>?_;(try simp only[zz]);(go_simp;refine (CG.o _).mono ?_;rintro e w3 ⟨rfl,hq⟩;have zl3:w.heap.size<w3.heap.size:=(k3.nz hq).lt;replace k3:=k3.nz hq;replace kb:=kb.nz hq;replace hB:=bgo hB hq;clear hq);refine hK.out _ _ (k3.cell) ?_;clear aH hK K;intro aH;(try simp only[zz]);refine tk2 5 rfl aH (h:=?_);refine rdc 7 rfl fun K hK=>?_;(try simp only[zz]);(go_simp;refine (CI.o _ hB).mono ?_;rintro e w4 ⟨rfl,hq⟩;have zl4:w.heap.size<w4.heap.size:=(k3.nz hq).lt;replace k3:=k3.nz hq;replace kb:=kb.nz hq;replace hB:=bgo hB hq;clear hq);refine hK.out _ _ (k3.cell) ?_;clear aH hK K;intro aH;(try simp only[zz]);refine tk2 8 rfl aH (h:=tk2 9 rfl aH (h:=?_));(try simp only[zz]);have hlb:=kb.lt;have ql:=kb.cell;have rl:=kb.frozen;have hn0:w.heap.size≠w2.heap.size:=by omega
     refine rdc 11 rfl fun K hK=>?_;(try simp only[zz]);(go_simp;replace k3:=(k3.far (p:=⟨w2.heap.size,0,none⟩) (fun e=>hn0 e) (.int .u16 K0)).far (p:=⟨w2.heap.size,1,none⟩) (fun e=>hn0 e) (.bool true);replace hB:=(hB.setCell (p:=⟨w2.heap.size,0,none⟩) (by simp only;omega) (.int .u16 K0)).setCell (p:=⟨w2.heap.size,1,none⟩) (by simp only;omega) (.bool true);replace kb:=(kb.set_ 0 (.int .u16 K0)).set_ 1 (.bool true));refine hK.out _ _ (k3.cell) ?_;clear aH hK K;intro aH;(try simp only[zz]);refine dn1 ?_;(go_wp2_with fail);go_meet
     case rel=>exact ⟨w2.heap.size,rfl,by first|omega|(have:=hB.size;simp at this;omega),kb,k3,ax hB⟩
   ·(try simp only[zz]);(go_simp;have hq:=bbox (Below.refl _ w1) (.cells #[.int .u16 0,.bool false] 106);replace k3:=k3.nz hq;replace hB:=bgo hB hq;clear hq);refine hK.out _ _ (k3.cell) ?_;clear aH hK K;intro aH;(try simp only[zz]);have kb:=Blk.new w1 106 #[.int .u16 0,.bool false];have hlz:w.heap.size≤w1.heap.size:=by first|exact Nat.le_refl _|exact hB.size|(have:=hB.size;simp at this;omega)
    refine rdc 3 rfl fun K hK=>?_;(try simp only[zz]);(go_simp;refine (CT.o _ hB).mono ?_;rintro e w2 ⟨rfl,hq⟩;have zl2:w.heap.size<w2.heap.size:=(k3.nz hq).lt;replace k3:=k3.nz hq;replace kb:=kb.nz hq;replace hB:=bgo hB hq;clear hq);refine hK.out _ _ (k3.cell) ?_;clear aH hK K;intro aH;refine rdc 4 rfl fun K hK=>?_;(try simp only[zz]);(go_simp;refine (CG.o _).mono ?_;rintro e w3 ⟨rfl,hq⟩;have zl3:w.heap.size<w3.heap.size:=(k3.nz hq).lt;replace k3:=k3.nz hq;replace kb:=kb.nz hq;replace hB:=bgo hB hq;clear hq);refine hK.out _ _ (k3.cell) ?_;clear aH hK K;intro aH;(try simp only[zz]);refine tk2 5 rfl aH (h:=?_);refine rdc 7 rfl fun K hK=>?_;(try simp only[zz]);(go_simp;refine (CI.o _ hB).mono ?_;rintro e w4 ⟨rfl,hq⟩;have zl4:w.heap.size<w4.heap.size:=(k3.nz hq).lt;replace k3:=k3.nz hq;replace kb:=kb.nz hq;replace hB:=bgo hB hq;clear hq);refine hK.out _ _ (k3.cell) ?_;clear aH hK K;intro aH;(try simp only[zz]);refine tk2 8 rfl aH (h:=tk2 9 rfl aH (h:=?_));(try simp only[zz]);have hlb:=kb.lt;have ql:=kb.cell;have rl:=kb.frozen;have hn0:w.heap.size≠w1.heap.size:=by omega
    refine rdc 11 rfl fun K hK=>?_;(try simp only[zz]);(go_simp;replace k3:=(k3.far (p:=⟨w1.heap.size,0,none⟩) (fun e=>hn0 e) (.int .u16 K0)).far (p:=⟨w1.heap.size,1,none⟩) (fun e=>hn0 e) (.bool true);replace hB:=(hB.setCell (p:=⟨w1.heap.size,0,none⟩) (by simp only;omega) (.int .u16 K0)).setCell (p:=⟨w1.heap.size,1,none⟩) (by simp only;omega) (.bool true);replace kb:=(kb.set_ 0 (.int .u16 K0)).set_ 1 (.bool true));refine hK.out _ _ (k3.cell) ?_;clear aH hK K;intro aH;(try simp only[zz]);refine dn1 ?_;(go_wp2_with fail);go_meet
    case rel=>exact ⟨w1.heap.size,rfl,by first|omega|(have:=hB.size;simp at this;omega),kb,k3,ax hB⟩
  ·(try simp only[zz]);(go_simp;have hq:=bbox (Below.refl _ V) (.cells #[.int .u16 0,.bool false] 106);replace k3:=k3.nz hq;replace hB:=bgo hB hq;clear hq);refine hK.out _ _ (k3.cell) ?_;clear aH hK K;intro aH;(try simp only[zz]);have kb:=Blk.new V 106 #[.int .u16 0,.bool false];have hlz:w.heap.size≤V.heap.size:=by first|exact Nat.le_refl _|exact hB.size|(have:=hB.size;simp at this;omega)
   refine rdc 1 rfl fun K hK=>?_;(try simp only[zz]);(go_simp;refine (CS.o _ hB).mono ?_;rintro e w1 ⟨rfl,hq⟩;have zl1:w.heap.size<w1.heap.size:=(k3.nz hq).lt;replace k3:=k3.nz hq;replace kb:=kb.nz hq;replace hB:=bgo hB hq;clear hq);refine hK.out _ _ (k3.cell) ?_;clear aH hK K;intro aH;refine rdc 3 rfl fun K hK=>?_;(try simp only[zz]);(go_simp;refine (CT.o _ hB).mono ?_;rintro e w2 ⟨rfl,hq⟩;have zl2:w.heap.size<w2.heap.size:=(k3.nz hq).lt;replace k3:=k3.nz hq;replace kb:=kb.nz hq;replace hB:=bgo hB hq;clear hq);refine hK.out _ _ (k3.cell) ?_;clear aH hK K;intro aH;refine rdc 4 rfl fun K hK=>?_;(try simp only[zz]);(go_simp;refine (CG.o _).mono ?_;rintro e w3 ⟨rfl,hq⟩;have zl3:w.heap.size<w3.heap.size:=(k3.nz hq).lt;replace k3:=k3.nz hq;replace kb:=kb.nz hq;replace hB:=bgo hB hq;clear hq);refine hK.out _ _ (k3.cell) ?_;clear aH hK K;intro aH;(try simp only[zz]);refine tk2 5 rfl aH (h:=?_);refine rdc 7 rfl fun K hK=>?_;(try simp only[zz]);(go_simp;refine (CI.o _ hB).mono ?_;rintro e w4 ⟨rfl,hq⟩;have zl4:w.heap.size<w4.heap.size:=(k3.nz hq).lt;replace k3:=k3.nz hq;replace kb:=kb.nz hq;replace hB:=bgo hB hq;clear hq);refine hK.out _ _ (k3.cell) ?_;clear aH hK K;intro aH;(try simp only[zz]);refine tk2 8 rfl aH (h:=tk2 9 rfl aH (h:=?_));(try simp only[zz]);have hlb:=kb.lt;have ql:=kb.cell;have rl:=kb.frozen;have hn0:w.heap.size≠V.heap.size:=by omega
   refine rdc 11 rfl fun K hK=>?_;(try simp only[zz]);(go_simp;replace k3:=(k3.far (p:=⟨V.heap.size,0,none⟩) (fun e=>hn0 e) (.int .u16 K0)).far (p:=⟨V.heap.size,1,none⟩) (fun e=>hn0 e) (.bool true);replace hB:=(hB.setCell (p:=⟨V.heap.size,0,none⟩) (by simp only;omega) (.int .u16 K0)).setCell (p:=⟨V.heap.size,1,none⟩) (by simp only;omega) (.bool true);replace kb:=(kb.set_ 0 (.int .u16 K0)).set_ 1 (.bool true));refine hK.out _ _ (k3.cell) ?_;clear aH hK K;intro aH;(try simp only[zz]);refine dn1 ?_;(go_wp2_with fail);go_meet
   case rel=>exact ⟨V.heap.size,rfl,by first|omega|(have:=hB.size;simp at this;omega),kb,k3,ax hB⟩
 case rest=>
  obtain ⟨z,rfl,hzw,kz,k3,HB⟩:=hcut;have hzs:=HB.o.size;clear hB hor1 hor2;(replace qkz:=kz.z;replace qk3:=k3.z);(go_wp2_with fail);refine (CL.o HV.o HP.o _ _ _ _ (HX.o.bz HB.o) (by omega) HB.o).mono ?_;rintro e w5 ⟨r,vs,rfl,o5,hB5⟩;have HRR:=ax (HR.o HV.o HP.o);have E1:aJ (res=L.exe true K0 [a]):=ax (by rw[E0.o,HV.o,HP.o,←HK.o];rfl);have HB5:=ax (bgo HB.o hB5);have O5:=ax (o5.bq (base':=w.heap.size) hzs);clear o5 hB5 CL CS CT CG CI HR;generalize L.exe true K0 [a]=P at *;obtain ⟨code,ps⟩:=P;obtain ⟨R,r,rfl⟩:=O5.o.form;simp only at E1 O5 ⊢;(go_wp2_with fail);go_ret2;exact ⟨_,vs,by rw[E1.o];rfl,by rw[E1.o];exact O5.o,HB5.o⟩
theorem c_impl_VerifyE {lo hi lo1 hi1 lo2 hi2:Nat} (v v2:Value) (a b:Asn) (A:Option Addr) (c:Nat) (L:Cms) (w:World) (h:AsnC w lo hi v a) (hhi:hi≤w.heap.size) (hV:CmsV w lo1 hi1 A L) (hhi1:hi1≤w.heap.size) (hlen:L.len≤1049600) (hsm:L.small 1049600) (h2:AsnV w lo2 hi2 v2 b) (hhi2:hi2≤w.heap.size) (hL:L=.nil) :
  Calls Tryz.prog 24 #[v,.slice A L.len c,v2] w fun e w'=>e=.returned (.int .i64 (verP a L b))∧Below w.heap.size w w':=by
 have HX:=ax h;have HL:=ax hL;clear hL;have HY:=ax h2;obtain ⟨B1,e1,B2,e2,rfl,-⟩:=h;obtain ⟨D1,f1,D2,f2,rfl,-⟩:=h2;have HC:=ax hV;have HSM:=ax hsm;obtain ⟨res,hres⟩:∃ q,q=verP a L b:=⟨_,rfl⟩;have E0:aJ (res=if b.valid then (if (strongP a L (atermsL b)).1≠0 then (strongP a L (atermsL b)).1 else if (strongP a L (atermsL b)).2.all fun p=>entF p b then 0 else 2) else 5):=ax hres;rw[←hres];clear hV hres hsm;(go_enter Tryz.func24,Tryz.ntmps24);(go_upto_region 1 with fail);refine bx2 (w:=w) (F:=Code.wp _ _ _ _) ?_;rintro W k3 k5 hB hz;(replace qk3:=k3.z;replace qk5:=k5.z);(go_wp2_with fail);refine (jz _ b _ (HY.o.bz hB)).mono ?_;rintro e w0 ⟨rfl,hq⟩;(replace hB:=bgo hB hq;replace k3:=k3.nz hq;replace qk3:=k3.z;replace k5:=k5.nz hq;replace qk5:=k5.z);clear hq;cases hv:b.valid
 ·have E:aJ (res=5):=ax (by rw[E0.o,hv];rfl);clear hv;(go_wp2_with fail);go_ret;exact ⟨ret_int E.o.symm,hB⟩
 have E1:aJ (res=(if (strongP a L (atermsL b)).1≠0 then (strongP a L (atermsL b)).1 else if (strongP a L (atermsL b)).2.all fun p=>entF p b then 0 else 2)):=ax (by rw[E0.o,hv];rfl);clear hv E0 hz qk3 qk5;(go_upto_region 3 with fail);generalize w0=V0 at *;refine wp_region_noPanic ?_;refine wp_region_held_drew (S:=(fun w'=>(∀ q,w'.cell? ⟨w.heap.size,q,none⟩=#[.slice B1 a.facts.length e1,.slice B2 a.atoms.length e2][q]?)∧(∀ q,w'.cell? ⟨w.heap.size+1,q,none⟩=#[.slice D1 b.facts.length f1,.slice D2 b.atoms.length f2][q]?))) (by kernel_rfl) (⟨k3.drew.cell,k5.drew.cell⟩) (fun aH=>?_);have hq:=(Below.refl V0.heap.size V0).drew;(replace hB:=bgo hB hq;replace k3:=k3.nz hq;replace k5:=k5.nz hq);clear hq;generalize V0.drew=V at *;refine tk2 0 rfl aH (h:=tk2 1 rfl aH (h:=tk2 2 rfl aH (h:=?_)));refine rdc 3 rfl fun K hK=>?_;(try simp only[zz]);(go_simp;refine (c_impl_AssertionTerms _ b _ (HY.o.bz hB)).mono ?_;rintro e w1 ⟨r1,rfl,o1,hq⟩;obtain ⟨KA,kc,rfl,hK1⟩:=o1.rj;have HK:=ax hK1;(replace hB:=bgo hB hq;replace k3:=k3.nz hq;replace k5:=k5.nz hq);clear hq o1 hK1);refine hK.out _ _ (⟨k3.cell,k5.cell⟩) ?_;clear aH hK K;intro aH;refine rdc 4 rfl fun K hK=>?_;(try simp only[zz]);(go_simp;refine (c_impl_StrongestE _ a A c L KA kc (atermsL b) _ (HX.o.bz hB) (by have:=hB.size;omega) (HC.o.bz hB) (by have:=hB.size;omega) hlen HSM.o HK.o HL.o).mono ?_;rintro e w2 ⟨r2,vs,rfl,o2,hq⟩;have O2:=ax o2;(replace hB:=bgo hB hq;replace k3:=k3.nz hq;replace k5:=k5.nz hq);clear hq o2 HK);refine hK.out _ _ (⟨k3.cell,k5.cell⟩) ?_;clear aH hK K;intro aH;(try simp only[zz]);refine tk2 5 rfl aH (h:=tk2 6 rfl aH (h:=tk2 7 rfl aH (h:=?_)));(try simp only[zz]);refine tk2 8 rfl aH (h:=tk2 9 rfl aH (h:=?_));(try simp only[zz]);refine dn1 ?_;clear aH;have HRS:=ax (strongP_res a L (atermsL b));generalize strongP a L (atermsL b)=P at *;obtain ⟨code,ps⟩:=P;obtain ⟨R,r,rfl⟩:=O2.o.form;have ON:=ax O2.o.now;have hpl:ps.length≤1000:=Nat.le_trans HRS.o.2.2.1 (by decide);simp only at E1 ⊢;clear HRS O2;(replace qk3:=k3.z;replace qk5:=k5.z);by_cases h0:code=0
 ·subst h0;have E2:aJ (res=if ps.all fun p=>entF p b then 0 else 2):=ax (by rw[E1.o];simp);clear E1;(go_wp2_with fail);refine (c_allEntail _ b R r ps _ ON.o (HY.o.bz hB) (by have:=hB.size;omega) hpl).mono ?_;rintro e w3 ⟨rfl,hq⟩;(replace hB:=bgo hB hq;replace k3:=k3.nz hq;replace qk3:=k3.z;replace k5:=k5.nz hq;replace qk5:=k5.z);clear hq;cases hal:ps.all fun p=>entF p b
  ·have E:aJ (res=2):=ax (by rw[E2.o,hal];rfl);clear hal;(go_wp2_with fail);go_ret;exact ⟨ret_int E.o.symm,hB⟩
  ·have E:aJ (res=0):=ax (by rw[E2.o,hal];rfl);clear hal;(go_wp2_with fail);go_ret;exact ⟨ret_int E.o.symm,hB⟩
 ·have E:aJ (res=code):=ax (by rw[E1.o,if_pos h0]);have h0b:(code == 0)=false:=beq_false_of_ne h0;clear E1;(go_wp2_with fail);go_ret;exact ⟨ret_int E.o.symm,hB⟩
theorem AsnV.parts {w:World} {lo hi:Nat} {F G:Option Addr} {n m f g:Nat} {b:Asn} (h:AsnV w lo hi (.agg #[.slice F n f,.slice G m g]) b):FactsV w lo hi F b.facts∧AtomsV w lo hi G b.atoms:=by
 obtain ⟨A1,c1,A2,c2,e,h1,h2⟩:=h;injection e with e;injection e with e;injection e with e1 e2;injection e1 with e1;injection e2 with e2;injection e2 with e2;subst e1 e2;exact ⟨h1,h2⟩
theorem IntsV.two {w:World} {g:Nat} {a b:Int} (h:Blk w g tI #[.int .i64 a,.int .i64 b]):IntsV w g (g+1) (some ⟨g,0,none⟩) [a,b]:=
 ⟨⟨by simp[encI],fun _=>⟨g,0,rfl,Nat.le_refl _,Nat.lt_succ_self _,fun j u hu=>by rw[Nat.zero_add,h.cell];simpa[encI] using hu⟩⟩,by simp[Lim]⟩
section
variable {w w':World} {b b':Nat} {v v':Value} {vs vs':List Value} {ss ss':List Asn}
theorem A2O.other (h:A2O w b v vs ss) (h':A2O w b' v' vs' ss') (hg:w.grownBy w' v'.ownBlock) (hne:∀ g,v'.ownBlock=some g→v.ownBlock≠some g):A2O w' b v vs ss:=by
 refine ⟨?_,h.lim,h.els.grown h'.row hg (by decide) (by decide)⟩;rcases h.row.2 with h1|⟨g,cap,cur,rfl,hb,hk,hr⟩
 ·exact ⟨h.row.1,.inl h1⟩
 ·exact ⟨h.row.1,.inr ⟨g,cap,cur,rfl,hb,(hg.block g (Array.getElem?_eq_some_iff.1 hk).1 (fun e=>hne g e.symm rfl)).trans hk,hr⟩⟩
end
theorem Blk.apart {w w':World} {g:Nat} {t:TypeId} {cs:Array Value} {row:Option Nat} (h:Blk w g t cs) (hg:w.grownBy w' row) (hne:some g=row→False):Blk w' g t cs:=(hg.block g h.lt hne).trans h
section
variable {ops:Array Oper} {rest:List Oper} {o:Oper} {a:Act} {Q:Exit→Act→World→Prop} {w w0:World} {base mid:Nat} {v v2:Value} {vs vs2:List Value} {ss ss2:List Asn}
end
end
section
open Go Go.RowKit Go.Proofs
end
section
open Go Go.RowKit Go.Proofs
attribute [local go_sem ↓] Go.wp_at_zero Go.wp_at_succ
end
section
open Go Go.RowKit Go.Proofs
theorem stepI2 {ops:Array Oper} {o:Oper} {a:Act} {K:Act→World→Prop} {Q:Exit→Act→World→Prop} {E:Prop} {w:World} {base lo hi c:Nat} {v:Value} {A:Option Addr} (hgd:o.guard=none) (s x:Operand) (ho:o.op=.call { callee:=.builtin .append,args:=#[s,x],argTypes:=#[31,31] })
  {xs ys:List Int} (hs:a.eval s=v) (hown:IntsO w base v xs) (hx:a.eval x=.slice A ys.length c) (hR:IntsV w lo hi A ys) (hn:xs.length+ys.length≤1049600) (hb:base≤w.heap.size)
  (h:∀ A' c' w',IntsO w' base (.slice A' (xs++ys).length c') (xs++ys)→w.grownBy w' v.ownBlock→Below base w w'→K (a.put o.dst (.slice A' (xs++ys).length c')) w'):if Region.wanted o (yielded ops a.tmps)=true then Oper.wp Tryz.prog o a w K Q else E:=by
 have hw:Region.wanted o (yielded ops a.tmps)=true:=by simp[Region.wanted,hgd]
 rw[if_pos hw];refine wp_appL s x 31 ho Tryz.underlying31 infoI rfl (by decide) (by decide) hs hown.1 hx hR.raw (encI_one _) hn hb ?_;intro v' w' h1 h2 h3;have hO:IntsO w' base v' (xs++ys):=⟨by rw[List.length_append,show encI (xs++ys)=encI xs++encI ys from List.map_append];exact h1,by simp[Lim];omega⟩;obtain ⟨A',c',rfl,-⟩:=hO.rj;exact h A' c' w' hO h2 h3
theorem IntsO.four (w:World) (a b c d:Int) {base:Nat} (hb:base≤w.heap.size):IntsO (w.alloc (.cells #[.int .i64 a,.int .i64 b,.int .i64 c,.int .i64 d] tI)) base (.slice (some ⟨w.heap.size,0,none⟩) 4 4) [a,b,c,d]:=
 ⟨own_of_blk (n:=4) (cap:=4) (Blk.new w tI _) hb (by simp) (by intro j hj;simp) (Nat.le_refl _) (by decide) (by simp),by simp[Lim]⟩
theorem foldl_at {S:Nat} (xs:List Int) (q:Nat) (hq:q<xs.length):(xs.drop q).foldl tsup S=(xs.drop (q+1)).foldl tsup (tsup S xs[q]):=by
 rw[List.drop_eq_getElem_cons hq];rfl
theorem l8Logical_go:∀ (N:Nat) (L:Cms),L.sz<N→∀ (A:Option Addr) (c lo hi g S d:Nat) (w:World),CmsV w lo hi A L→L.len≤1049600→L.small 1049600→L.shape d=true→hi≤g→S<512→Blk w g tB (encB (zj S)).toArray→
  Calls Tryz.prog 122 #[.slice (some ⟨g,0,none⟩) 9 9,.slice A L.len c] w fun e w'=>e=.returned (.slice (some ⟨g,0,none⟩) 9 9)∧Blk w' g tB (encB (zj (L.fold lsF S))).toArray∧Mk (fun x=>x=g) w w':=by
 intro N
 induction N with
 | zero=>intro L h;omega
 | succ N IH=>
  intro L hsz A c lo hi g S d w hV hlen hsm hsh hgS hS hK;replace IH:=ax IH;replace hsm:=ax hsm;replace hsz:=ax hsz;replace hsh:=ax hsh;obtain ⟨n,hn⟩:∃ n,n=L.len:=⟨_,rfl⟩;rw[←hn];rw[←hn] at hlen;replace hn:=ax hn;have hgl:=hK.lt;replace hV:=ax hV;(go_enter Tryz.func122,Tryz.ntmps122);(go_wp2_with fail)
  go_loopw [0,5] (fun y x wr=>∃ (j S1:Nat),j≤n∧x=.int .i64 j∧y=.slice (some ⟨g,0,none⟩) 9 9∧S1<512∧aJ (L.fold lsF S=(L.drop j).fold lsF S1)∧Blk wr g tB (encB (zj S1)).toArray∧Mk (fun x=>x=g) w wr) (fun _ x _=>n - (intOf x).toNat)
  case atStart=>exact ⟨0,S,Nat.zero_le _,rfl,rfl,hS,ax rfl,hK,Mk.refl _ _⟩
  case round=>
   clear hK;obtain ⟨j,S1,hj,rfl,rfl,hS1,HR,kS,hM⟩:=hrel;obtain ⟨wo,rfl⟩:∃ x,x=wr:=⟨_,rfl⟩;by_cases hlt:j<n
   ·have hpos:0<(L.drop j).len:=by rw[Cms.drop_len,←hn.o];omega
    obtain ⟨k,a,b,t,i,body,els,r,eL⟩:=Cms.cons_of_len hpos;obtain ⟨bl,o,rfl,-,hblt,hAt⟩:=(hV.o.mk1 hM hgS hgl) (by rw[←hn.o];omega);have hD:=hAt.drop j;have hSm:=Cms.small_drop j hsm.o;have hZ:=Cms.sz_drop j L;have hDs:=Cms.drop_succ j L eL;have hshj:=Cms.shape_drop j hsh.o;have HR':=HR.o;rw[eL] at hD hSm hZ HR' hshj;obtain ⟨⟨p0,p1,p2,p3,p4,p5⟩,⟨A6,c6,p6,g6⟩,⟨A7,c7,p7,g7⟩,⟨A8,c8,p8,g8⟩,⟨A9,c9,p9,g9⟩,-⟩:=hD;obtain ⟨s1,s2,s3,s4,s5,s6,-⟩:=hSm;simp only[Cms.sz] at hZ;have hbs:body.sz<N:=by have:=hsz.o;omega
    have hes:els.sz<N:=by have:=hsz.o;omega
    have gA:aJ (AsnV wo lo hi (.agg #[.slice A6 i.facts.length c6,.slice A7 i.atoms.length c7]) i):=⟨_,_,_,_,rfl,⟨g6,s1⟩,⟨g7,s2⟩⟩;have gB:aJ (CmsV wo lo hi A8 body):=g8;have gE:aJ (CmsV wo lo hi A9 els):=g9;rw[Cms.fold,←hDs] at HR';rw[Cms.shape] at hshj;simp only[Bool.and_eq_true] at hshj;obtain ⟨-,hfv,hsb,hse,-⟩:=hshj;obtain ⟨x1,x2,x3,x4,x5⟩:=fval_terms hfv
    have hall:∀ x∈lsL a b t i,0≤x∧x≤8:=by
     intro x hx;simp only[lsL,List.mem_append,List.mem_cons,List.not_mem_nil,or_false] at hx;rcases hx with (rfl|rfl|rfl|rfl)|hx
     ·exact zjA.1 x1
     ·exact zjA.1 x2
     ·exact zjA.1 x3
     ·exact zjA.1 x4
     ·unfold tlistL at hx;obtain ⟨m,hm,rfl⟩:=List.mem_map.1 hx;have:=(List.mem_filter.1 hm).1;simp at this;omega
    obtain ⟨S2,hS2⟩:∃ x,x=lsF S1 k a b t i:=⟨_,rfl⟩;have l2:S2<512:=by rw[hS2];exact lsF_lt hS1 k a b t i
    obtain ⟨S3,hS3⟩:∃ x,x=body.fold lsF S2:=⟨_,rfl⟩;have l3:S3<512:=by rw[hS3];exact Cms.fold_lt (fun S k a b t i h=>lsF_lt h k a b t i) body l2
    obtain ⟨S4,hS4⟩:∃ x,x=els.fold lsF S3:=⟨_,rfl⟩;have l4:S4<512:=by rw[hS4];exact Cms.fold_lt (fun S k a b t i h=>lsF_lt h k a b t i) els l3
    rw[←hS2,←hS3,←hS4] at HR';obtain ⟨Y,hY⟩:∃ Y,Y=tlistL (tset (mz i)) 9:=⟨_,rfl⟩;obtain ⟨Q,hQ⟩:∃ Q,Q=lsL a b t i:=⟨_,rfl⟩;have hYl:Y.length≤9:=by rw[hY];exact tlistL_length _ _
    have hQ2:[a,b,t.a,t.b]++Y=Q:=by rw[hQ,hY];rfl
    have hQl:Q.length≤13:=by rw[←hQ2];simp;omega
    have hS2':S2=Q.foldl tsup S1:=by rw[hS2,hQ];rfl
    rw[←hQ] at hall;replace hall:=ax hall;replace HR':=ax HR';replace hS2:=ax hS2';replace hS3:=ax hS3;replace hS4:=ax hS4;replace hY:=ax hY;replace hQ2:=ax hQ2;replace x5:=ax x5;replace hbs:=ax hbs;replace hes:=ax hes;replace s5:=ax s5;replace s6:=ax s6;replace hsb:=ax hsb;replace hse:=ax hse;have hgl1:=kS.lt;have hrg:wo.heap.size≠g:=by omega
    clear hZ hpos hAt g6 g7 g8 g9 HR hDs eL hfv x1 x2 x3 x4 hQ hS2';(go_wp2_with fail);have k00:Blk (wo.alloc (.cells #[.int .i64 k,.int .i64 a,.int .i64 b,.bool t.eq,.int .i64 t.a,.int .i64 t.b,.slice A6 i.facts.length c6,.slice A7 i.atoms.length c7,.slice A8 body.len c8,.slice A9 els.len c9] tC)) wo.heap.size tC #[.int .i64 k,.int .i64 a,.int .i64 b,.bool t.eq,.int .i64 t.a,.int .i64 t.b,.slice A6 i.facts.length c6,.slice A7 i.atoms.length c7,.slice A8 body.len c8,.slice A9 els.len c9]:=Blk.new _ _ _;refine wp_region_noPanic ?_;refine wp_region_held_drew (S:=(fun w'=>∀ j,w'.cell? ⟨wo.heap.size,j,none⟩=#[.int .i64 k,.int .i64 a,.int .i64 b,.bool t.eq,.int .i64 t.a,.int .i64 t.b,.slice A6 i.facts.length c6,.slice A7 i.atoms.length c7,.slice A8 body.len c8,.slice A9 els.len c9][j]?)) (by kernel_rfl) (k00.cell) (fun aH=>?_);refine tk2 0 rfl aH (h:=tk2 1 rfl aH (h:=tk2 2 rfl aH (h:=?_)));(try simp only[zz]);refine tk2 3 rfl aH (h:=tk2 4 rfl aH (h:=tk2 5 rfl aH (h:=?_)));(try simp only[zz]);refine tk2 6 rfl aH (h:=tk2 7 rfl aH (h:=tk2 8 rfl aH (h:=?_)));(try simp only[zz]);refine tk2 9 rfl aH (h:=tk2 11 rfl aH (h:=tk2 12 rfl aH (h:=?_)));(try simp only[zz]);obtain ⟨X,hX⟩:∃ X,X=(wo.alloc (.cells #[.int .i64 k,.int .i64 a,.int .i64 b,.bool t.eq,.int .i64 t.a,.int .i64 t.b,.slice A6 i.facts.length c6,.slice A7 i.atoms.length c7,.slice A8 body.len c8,.slice A9 els.len c9] tC)).drew:=⟨_,rfl⟩;have hBX:Below wo.heap.size wo X:=by rw[hX];exact bel
    have kX:Blk X wo.heap.size tC #[.int .i64 k,.int .i64 a,.int .i64 b,.bool t.eq,.int .i64 t.a,.int .i64 t.b,.slice A6 i.facts.length c6,.slice A7 i.atoms.length c7,.slice A8 body.len c8,.slice A9 els.len c9]:=by rw[hX];exact k00.drew
    have kSX:Blk X g tB (encB (zj S1)).toArray:=by rw[hX];exact (kS.alloc _).drew
    have hzX:wo.heap.size≤X.heap.size:=hBX.size;rw[←hX] at aH ⊢;clear hX kS k00 p0 p1 p2 p3 p4 p5 p6 p7 p8 p9;refine rdd 10 13 rfl rfl (fun K hK=>?_) fun K hK=>?_
    ·go_simp;have kX2:=kX.alloc (.cells #[.int .i64 a,.int .i64 b,.int .i64 t.a,.int .i64 t.b] tI);have kS2:=kSX.alloc (.cells #[.int .i64 a,.int .i64 b,.int .i64 t.a,.int .i64 t.b] tI);have B2:Below wo.heap.size wo (X.alloc (.cells #[.int .i64 a,.int .i64 b,.int .i64 t.a,.int .i64 t.b] tI)):=bbox hBX _;have o0:IntsO (X.alloc (.cells #[.int .i64 a,.int .i64 b,.int .i64 t.a,.int .i64 t.b] tI)) wo.heap.size (.slice (some ⟨X.heap.size,0,none⟩) 4 4) [a,b,t.a,t.b]:=IntsO.four _ _ _ _ _ hzX;refine hK.out _ _ (kX2.cell) ?_;clear aH hK K;intro aH;(try simp only[zz]);clear kX kSX hBX;refine rdc 13 rfl fun K hK=>?_;(try simp only[zz]);(go_simp;refine (c_spec_l3Terms _ i _ (gA.o.bz B2) x5.o).mono ?_;rintro e w3 ⟨r3,rfl,o3,hB3⟩;obtain ⟨T3,ct3,rfl,f3⟩:=o3.rj;rw[zjB];have B3:=bgo B2 hB3;have kX3:=kX2.nz hB3;have kS3:=kS2.nz hB3;have o0:=o0.bz hB3);refine hK.out _ _ (kX3.cell) ?_;clear aH hK K;intro aH;refine rdc 14 rfl fun K hK=>?_;(try simp only[zz]);(go_simp;have hl3:=c_spec_l3List T3 ct3 _ _ f3 (by rw[zjB];omega);rw[tlistL_idx,zjB,←hY.o] at hl3;refine hl3.mono ?_;rintro e w4 ⟨r4,rfl,o4,hB4⟩;obtain ⟨T4,ct4,rfl,f4⟩:=o4.rj;have B4:=bgo B3 hB4;have kX4:=kX3.nz hB4;have kS4:=kS3.nz hB4;have o0:=o0.bz hB4);refine hK.out _ _ (kX4.cell) ?_;clear aH hK K;intro aH;(try simp only[zz]);refine rdc 15 rfl fun K hK=>?_;skip;(refine stepI2 (xs:=[a,b,t.a,t.b]) (ys:=Y) rfl _ _ rfl rfl o0 rfl f4 (by simp;omega) B4.size ?_;intro AX cX w5 hO hg hB5;rw[hQ2.o] at hO ⊢;have kX5:=Blk.zm (hg:=hg) kX4 o0.1 (by decide);have kS5:=Blk.zm (hg:=hg) kS4 o0.1 (by decide);have B5:=Below.trans B4 hB5);refine hK.out _ _ (kX5.cell) ?_;clear aH hK K;intro aH;(try simp only[zz]);refine tk2 16 rfl aH (h:=?_);(try simp only[zz]);refine dn1 ?_;have M5:=Mk.below_ (p:=fun x=>x=g) B5;replace hO:=ax hO;clear o0 hg hB5 f3 f4 o3 o4 hB3 hB4 B3 B4 kX3 kX4 kS3 kS4 aH;have q5:=kX5.cell;have l5:=kX5.lt;(go_wp2_with fail)
     go_loopw [8] (fun x wx=>∃ (q T:Nat),q≤Q.length∧x=.int .i64 q∧T<512∧aJ (S2=(Q.drop q).foldl tsup T)∧Blk wx g tB (encB (zj T)).toArray∧aJ (Mk (fun x=>x=g) w5 wx)) (fun x _=>Q.length - (intOf x).toNat)
     case atStart=>exact ⟨0,S1,Nat.zero_le _,rfl,hS1,hS2,kS5,ax (Mk.refl _ _)⟩
     case round=>
      clear kS5;obtain ⟨q,T,hq,rfl,hT,HT,kT,HM⟩:=hrel;have kX6:=HM.o.blk kX5 hrg;clear q5 l5;by_cases hlq:q<Q.length
      ·have hx:=hall.o Q[q] (List.getElem_mem hlq);obtain ⟨m,e1⟩:=Int.eq_ofNat_of_zero_le hx.1;have oQ:IntsO wr wo.heap.size (.slice AX Q.length cX) Q:=hO.o.mk HM.o (fun g' hg' e=>by have:=(hO.o.1.lt g' hg').1;omega);obtain ⟨A',c',eA,fQ⟩:=oQ.rj;injection eA with ea eb ec;subst ea;obtain ⟨b',o',rfl,pq⟩:=fQ.at hlq;rw[e1] at pq;have m8:(m:Int)<9:=by omega
       have q1:wr.cell? ⟨g,m,none⟩=some (.bool (T.testBit m)):=(kT.cell m).trans (flags_cell T _ rfl (by omega));have r1:=kT.frozen;have hgT:=kT.lt;have hfs:=foldl_at (S:=T) Q q hlq;rw[e1] at hfs;replace hfs:=ax hfs;clear hx e1 fQ oQ;by_cases h4:(4:Int)<m
       ·have e4:tsup T (m:Int)=tins T (m:Int):=if_pos h4
        have k2:Blk (wr.setCell ⟨g,m,none⟩ (.bool true)) g tB (encB (zj (tins T (m:Int)))).toArray:=by
         rw[←tins_flags T m (by omega)];exact kT.set_ m _
        replace k2:=ax k2;replace e4:=ax e4;clear kT;(go_wp2_with fail)
        go_round
        case rel=>exact ⟨q+1,tins T (m:Int),by omega,by go_num,tins_lt hT _,ax (by rw[HT.o,hfs.o,e4.o]),k2.o,ax (HM.o.set (x:=⟨g,m,none⟩) rfl _)⟩
        case measure=>simp[intOf];omega
       ·have e4:tsup T (m:Int)=T:=if_neg h4;replace e4:=ax e4;(go_wp2_with fail)
        go_round
        case rel=>exact ⟨q+1,T,by omega,by go_num,hT,ax (by rw[HT.o,hfs.o,e4.o]),kT,HM⟩
        case measure=>simp[intOf];omega
      ·obtain rfl:q=Q.length:=by omega
       have hT2:S2=T:=by rw[HT.o,List.drop_length];rfl
       rw[←hT2] at kT;have M6:=M5.trans HM.o;have q6:=kX6.cell;have l6:=kX6.lt;clear HT hT2 HM kX5;(go_wp2_with fail);refine wp_region_noPanic ?_;refine wp_region_held_drew (S:=(fun w'=>∀ j,w'.cell? ⟨wo.heap.size,j,none⟩=#[.int .i64 k,.int .i64 a,.int .i64 b,.bool t.eq,.int .i64 t.a,.int .i64 t.b,.slice A6 i.facts.length c6,.slice A7 i.atoms.length c7,.slice A8 body.len c8,.slice A9 els.len c9][j]?)) (by kernel_rfl) (kX6.cell) (fun aH=>?_);refine tk2 0 rfl aH (h:=tk2 1 rfl aH (h:=tk2 2 rfl aH (h:=?_)));(try simp only[zz]);refine tk2 4 rfl aH (h:=tk2 5 rfl aH (h:=?_));refine rdc 3 rfl fun K hK=>?_;(try simp only[zz]);(go_simp;refine (IH.o body hbs.o A8 c8 lo hi g S2 (d - 1) _ ((gB.o.mk1 M6 hgS hgl1).bz bel) s3 s5.o hsb.o hgS l2 kT.drew).mono ?_;rintro e w8 ⟨rfl,k7,M7⟩;rw[←hS3.o] at k7;have M8:=(M6.trans (Mk.below_ (Below.refl _ _).drew)).trans M7;have kX8:=M7.blk (kX6.drew) hrg);refine hK.out _ _ (kX8.cell) ?_;clear aH hK K;intro aH;refine rdc 6 rfl fun K hK=>?_;(try simp only[zz]);(go_simp;refine (IH.o els hes.o A9 c9 lo hi g S3 (d - 1) _ (gE.o.mk1 M8 hgS hgl1) s4 s6.o hse.o hgS l3 k7).mono ?_;rintro e w9 ⟨rfl,k9,M9⟩;rw[←hS4.o] at k9;have MA:=M8.trans M9;have kX9:=M9.blk kX8 hrg);refine hK.out _ _ (kX9.cell) ?_;clear aH hK K;intro aH;(try simp only[zz]);refine tk2 7 rfl aH (h:=?_);(try simp only[zz]);refine dn1 ?_;clear q6 l6 kX6 kX8 kX9;(go_wp2_with fail)
       go_round
       case rel=>exact ⟨j+1,S4,by omega,by go_num,rfl,l4,HR',k9,hM.trans MA⟩
       case measure=>simp[intOf];omega
    ·(go_simp;refine (c_spec_l3Terms _ i _ (gA.o.bz hBX) x5.o).mono ?_;rintro e w3 ⟨r3,rfl,o3,hB3⟩;obtain ⟨T3,ct3,rfl,f3⟩:=o3.rj;rw[zjB];have B3:=bgo hBX hB3;have kX3:=kX.nz hB3;have kS3:=kSX.nz hB3);refine hK.out _ _ (kX3.cell) ?_;clear aH hK K;intro aH;(try simp only[zz]);clear kX kSX hBX;refine rdd 10 14 rfl rfl (fun K hK=>?_) fun K hK=>?_
     ·go_simp;have o0:IntsO (w3.alloc (.cells #[.int .i64 a,.int .i64 b,.int .i64 t.a,.int .i64 t.b] tI)) wo.heap.size (.slice (some ⟨w3.heap.size,0,none⟩) 4 4) [a,b,t.a,t.b]:=IntsO.four _ _ _ _ _ B3.size;have f3:=f3.bz (w':=w3.alloc (.cells #[.int .i64 a,.int .i64 b,.int .i64 t.a,.int .i64 t.b] tI)) bel;have kX3:=kX3.alloc (.cells #[.int .i64 a,.int .i64 b,.int .i64 t.a,.int .i64 t.b] tI);have kS3:=kS3.alloc (.cells #[.int .i64 a,.int .i64 b,.int .i64 t.a,.int .i64 t.b] tI);have B3:=bbox B3 (.cells #[.int .i64 a,.int .i64 b,.int .i64 t.a,.int .i64 t.b] tI);refine hK.out _ _ (kX3.cell) ?_;clear aH hK K;intro aH;refine rdc 14 rfl fun K hK=>?_;(try simp only[zz]);(go_simp;have hl3:=c_spec_l3List T3 ct3 _ _ f3 (by rw[zjB];omega);rw[tlistL_idx,zjB,←hY.o] at hl3;refine hl3.mono ?_;rintro e w4 ⟨r4,rfl,o4,hB4⟩;obtain ⟨T4,ct4,rfl,f4⟩:=o4.rj;have B4:=bgo B3 hB4;have kX4:=kX3.nz hB4;have kS4:=kS3.nz hB4;have o0:=o0.bz hB4);refine hK.out _ _ (kX4.cell) ?_;clear aH hK K;intro aH;(try simp only[zz]);refine rdc 15 rfl fun K hK=>?_;skip;(refine stepI2 (xs:=[a,b,t.a,t.b]) (ys:=Y) rfl _ _ rfl rfl o0 rfl f4 (by simp;omega) B4.size ?_;intro AX cX w5 hO hg hB5;rw[hQ2.o] at hO ⊢;have kX5:=Blk.zm (hg:=hg) kX4 o0.1 (by decide);have kS5:=Blk.zm (hg:=hg) kS4 o0.1 (by decide);have B5:=Below.trans B4 hB5);refine hK.out _ _ (kX5.cell) ?_;clear aH hK K;intro aH;(try simp only[zz]);refine tk2 16 rfl aH (h:=?_);(try simp only[zz]);refine dn1 ?_;have M5:=Mk.below_ (p:=fun x=>x=g) B5;replace hO:=ax hO;clear o0 hg hB5 f3 f4 o3 o4 hB3 hB4 B3 B4 kX3 kX4 kS3 kS4 aH;have q5:=kX5.cell;have l5:=kX5.lt;(go_wp2_with fail)
      go_loopw [8] (fun x wx=>∃ (q T:Nat),q≤Q.length∧x=.int .i64 q∧T<512∧aJ (S2=(Q.drop q).foldl tsup T)∧Blk wx g tB (encB (zj T)).toArray∧aJ (Mk (fun x=>x=g) w5 wx)) (fun x _=>Q.length - (intOf x).toNat)
      case atStart=>exact ⟨0,S1,Nat.zero_le _,rfl,hS1,hS2,kS5,ax (Mk.refl _ _)⟩
      case round=>
       clear kS5;obtain ⟨q,T,hq,rfl,hT,HT,kT,HM⟩:=hrel;have kX6:=HM.o.blk kX5 hrg;clear q5 l5;by_cases hlq:q<Q.length
       ·have hx:=hall.o Q[q] (List.getElem_mem hlq);obtain ⟨m,e1⟩:=Int.eq_ofNat_of_zero_le hx.1;have oQ:IntsO wr wo.heap.size (.slice AX Q.length cX) Q:=hO.o.mk HM.o (fun g' hg' e=>by have:=(hO.o.1.lt g' hg').1;omega);obtain ⟨A',c',eA,fQ⟩:=oQ.rj;injection eA with ea eb ec;subst ea;obtain ⟨b',o',rfl,pq⟩:=fQ.at hlq;rw[e1] at pq;have m8:(m:Int)<9:=by omega
        have q1:wr.cell? ⟨g,m,none⟩=some (.bool (T.testBit m)):=(kT.cell m).trans (flags_cell T _ rfl (by omega));have r1:=kT.frozen;have hgT:=kT.lt;have hfs:=foldl_at (S:=T) Q q hlq;rw[e1] at hfs;replace hfs:=ax hfs;clear hx e1 fQ oQ;by_cases h4:(4:Int)<m
        ·have e4:tsup T (m:Int)=tins T (m:Int):=if_pos h4
         have k2:Blk (wr.setCell ⟨g,m,none⟩ (.bool true)) g tB (encB (zj (tins T (m:Int)))).toArray:=by
          rw[←tins_flags T m (by omega)];exact kT.set_ m _
         replace k2:=ax k2;replace e4:=ax e4;clear kT;(go_wp2_with fail)
         go_round
         case rel=>exact ⟨q+1,tins T (m:Int),by omega,by go_num,tins_lt hT _,ax (by rw[HT.o,hfs.o,e4.o]),k2.o,ax (HM.o.set (x:=⟨g,m,none⟩) rfl _)⟩
         case measure=>simp[intOf];omega
        ·have e4:tsup T (m:Int)=T:=if_neg h4;replace e4:=ax e4;(go_wp2_with fail)
         go_round
         case rel=>exact ⟨q+1,T,by omega,by go_num,hT,ax (by rw[HT.o,hfs.o,e4.o]),kT,HM⟩
         case measure=>simp[intOf];omega
       ·obtain rfl:q=Q.length:=by omega
        have hT2:S2=T:=by rw[HT.o,List.drop_length];rfl
        rw[←hT2] at kT;have M6:=M5.trans HM.o;have q6:=kX6.cell;have l6:=kX6.lt;clear HT hT2 HM kX5;(go_wp2_with fail);refine wp_region_noPanic ?_;refine wp_region_held_drew (S:=(fun w'=>∀ j,w'.cell? ⟨wo.heap.size,j,none⟩=#[.int .i64 k,.int .i64 a,.int .i64 b,.bool t.eq,.int .i64 t.a,.int .i64 t.b,.slice A6 i.facts.length c6,.slice A7 i.atoms.length c7,.slice A8 body.len c8,.slice A9 els.len c9][j]?)) (by kernel_rfl) (kX6.cell) (fun aH=>?_);refine tk2 0 rfl aH (h:=tk2 1 rfl aH (h:=tk2 2 rfl aH (h:=?_)));(try simp only[zz]);refine tk2 4 rfl aH (h:=tk2 5 rfl aH (h:=?_));refine rdc 3 rfl fun K hK=>?_;(try simp only[zz]);(go_simp;refine (IH.o body hbs.o A8 c8 lo hi g S2 (d - 1) _ ((gB.o.mk1 M6 hgS hgl1).bz bel) s3 s5.o hsb.o hgS l2 kT.drew).mono ?_;rintro e w8 ⟨rfl,k7,M7⟩;rw[←hS3.o] at k7;have M8:=(M6.trans (Mk.below_ (Below.refl _ _).drew)).trans M7;have kX8:=M7.blk (kX6.drew) hrg);refine hK.out _ _ (kX8.cell) ?_;clear aH hK K;intro aH;refine rdc 6 rfl fun K hK=>?_;(try simp only[zz]);(go_simp;refine (IH.o els hes.o A9 c9 lo hi g S3 (d - 1) _ (gE.o.mk1 M8 hgS hgl1) s4 s6.o hse.o hgS l3 k7).mono ?_;rintro e w9 ⟨rfl,k9,M9⟩;rw[←hS4.o] at k9;have MA:=M8.trans M9;have kX9:=M9.blk kX8 hrg);refine hK.out _ _ (kX9.cell) ?_;clear aH hK K;intro aH;(try simp only[zz]);refine tk2 7 rfl aH (h:=?_);(try simp only[zz]);refine dn1 ?_;clear q6 l6 kX6 kX8 kX9;(go_wp2_with fail)
        go_round
        case rel=>exact ⟨j+1,S4,by omega,by go_num,rfl,l4,HR',k9,hM.trans MA⟩
        case measure=>simp[intOf];omega
     ·(go_simp;have hl3:=c_spec_l3List T3 ct3 _ _ f3 (by rw[zjB];omega);rw[tlistL_idx,zjB,←hY.o] at hl3;refine hl3.mono ?_;rintro e w4 ⟨r4,rfl,o4,hB4⟩;obtain ⟨T4,ct4,rfl,f4⟩:=o4.rj;have B4:=bgo B3 hB4;have kX4:=kX3.nz hB4;have kS4:=kS3.nz hB4);refine hK.out _ _ (kX4.cell) ?_;clear aH hK K;intro aH;(try simp only[zz]);have o0:IntsO (w4.alloc (.cells #[.int .i64 a,.int .i64 b,.int .i64 t.a,.int .i64 t.b] tI)) wo.heap.size (.slice (some ⟨w4.heap.size,0,none⟩) 4 4) [a,b,t.a,t.b]:=IntsO.four _ _ _ _ _ B4.size;have f4:=f4.bz (w':=w4.alloc (.cells #[.int .i64 a,.int .i64 b,.int .i64 t.a,.int .i64 t.b] tI)) bel;have kX4:=kX4.alloc (.cells #[.int .i64 a,.int .i64 b,.int .i64 t.a,.int .i64 t.b] tI);have kS4:=kS4.alloc (.cells #[.int .i64 a,.int .i64 b,.int .i64 t.a,.int .i64 t.b] tI);have B4:=bbox B4 (.cells #[.int .i64 a,.int .i64 b,.int .i64 t.a,.int .i64 t.b] tI);refine rdc 10 rfl fun K hK=>?_;(try simp only[zz]);(go_simp);refine hK.out _ _ (kX4.cell) ?_;clear aH hK K;intro aH;(try simp only[zz]);refine rdc 15 rfl fun K hK=>?_;skip;(refine stepI2 (xs:=[a,b,t.a,t.b]) (ys:=Y) rfl _ _ rfl rfl o0 rfl f4 (by simp;omega) B4.size ?_;intro AX cX w5 hO hg hB5;rw[hQ2.o] at hO ⊢;have kX5:=Blk.zm (hg:=hg) kX4 o0.1 (by decide);have kS5:=Blk.zm (hg:=hg) kS4 o0.1 (by decide);have B5:=Below.trans B4 hB5);refine hK.out _ _ (kX5.cell) ?_;clear aH hK K;intro aH;(try simp only[zz]);refine tk2 16 rfl aH (h:=?_);(try simp only[zz]);refine dn1 ?_;have M5:=Mk.below_ (p:=fun x=>x=g) B5;replace hO:=ax hO;clear o0 hg hB5 f3 f4 o3 o4 hB3 hB4 B3 B4 kX3 kX4 kS3 kS4 aH;have q5:=kX5.cell;have l5:=kX5.lt;(go_wp2_with fail)
      go_loopw [8] (fun x wx=>∃ (q T:Nat),q≤Q.length∧x=.int .i64 q∧T<512∧aJ (S2=(Q.drop q).foldl tsup T)∧Blk wx g tB (encB (zj T)).toArray∧aJ (Mk (fun x=>x=g) w5 wx)) (fun x _=>Q.length - (intOf x).toNat)
      case atStart=>exact ⟨0,S1,Nat.zero_le _,rfl,hS1,hS2,kS5,ax (Mk.refl _ _)⟩
      case round=>
       clear kS5;obtain ⟨q,T,hq,rfl,hT,HT,kT,HM⟩:=hrel;have kX6:=HM.o.blk kX5 hrg;clear q5 l5;by_cases hlq:q<Q.length
       ·have hx:=hall.o Q[q] (List.getElem_mem hlq);obtain ⟨m,e1⟩:=Int.eq_ofNat_of_zero_le hx.1;have oQ:IntsO wr wo.heap.size (.slice AX Q.length cX) Q:=hO.o.mk HM.o (fun g' hg' e=>by have:=(hO.o.1.lt g' hg').1;omega);obtain ⟨A',c',eA,fQ⟩:=oQ.rj;injection eA with ea eb ec;subst ea;obtain ⟨b',o',rfl,pq⟩:=fQ.at hlq;rw[e1] at pq;have m8:(m:Int)<9:=by omega
        have q1:wr.cell? ⟨g,m,none⟩=some (.bool (T.testBit m)):=(kT.cell m).trans (flags_cell T _ rfl (by omega));have r1:=kT.frozen;have hgT:=kT.lt;have hfs:=foldl_at (S:=T) Q q hlq;rw[e1] at hfs;replace hfs:=ax hfs;clear hx e1 fQ oQ;by_cases h4:(4:Int)<m
        ·have e4:tsup T (m:Int)=tins T (m:Int):=if_pos h4
         have k2:Blk (wr.setCell ⟨g,m,none⟩ (.bool true)) g tB (encB (zj (tins T (m:Int)))).toArray:=by
          rw[←tins_flags T m (by omega)];exact kT.set_ m _
         replace k2:=ax k2;replace e4:=ax e4;clear kT;(go_wp2_with fail)
         go_round
         case rel=>exact ⟨q+1,tins T (m:Int),by omega,by go_num,tins_lt hT _,ax (by rw[HT.o,hfs.o,e4.o]),k2.o,ax (HM.o.set (x:=⟨g,m,none⟩) rfl _)⟩
         case measure=>simp[intOf];omega
        ·have e4:tsup T (m:Int)=T:=if_neg h4;replace e4:=ax e4;(go_wp2_with fail)
         go_round
         case rel=>exact ⟨q+1,T,by omega,by go_num,hT,ax (by rw[HT.o,hfs.o,e4.o]),kT,HM⟩
         case measure=>simp[intOf];omega
       ·obtain rfl:q=Q.length:=by omega
        have hT2:S2=T:=by rw[HT.o,List.drop_length];rfl
        rw[←hT2] at kT;have M6:=M5.trans HM.o;have q6:=kX6.cell;have l6:=kX6.lt;clear HT hT2 HM kX5;(go_wp2_with fail);refine wp_region_noPanic ?_;refine wp_region_held_drew (S:=(fun w'=>∀ j,w'.cell? ⟨wo.heap.size,j,none⟩=#[.int .i64 k,.int .i64 a,.int .i64 b,.bool t.eq,.int .i64 t.a,.int .i64 t.b,.slice A6 i.facts.length c6,.slice A7 i.atoms.length c7,.slice A8 body.len c8,.slice A9 els.len c9][j]?)) (by kernel_rfl) (kX6.cell) (fun aH=>?_);refine tk2 0 rfl aH (h:=tk2 1 rfl aH (h:=tk2 2 rfl aH (h:=?_)));(try simp only[zz]);refine tk2 4 rfl aH (h:=tk2 5 rfl aH (h:=?_));refine rdc 3 rfl fun K hK=>?_;(try simp only[zz]);(go_simp;refine (IH.o body hbs.o A8 c8 lo hi g S2 (d - 1) _ ((gB.o.mk1 M6 hgS hgl1).bz bel) s3 s5.o hsb.o hgS l2 kT.drew).mono ?_;rintro e w8 ⟨rfl,k7,M7⟩;rw[←hS3.o] at k7;have M8:=(M6.trans (Mk.below_ (Below.refl _ _).drew)).trans M7;have kX8:=M7.blk (kX6.drew) hrg);refine hK.out _ _ (kX8.cell) ?_;clear aH hK K;intro aH;refine rdc 6 rfl fun K hK=>?_;(try simp only[zz]);(go_simp;refine (IH.o els hes.o A9 c9 lo hi g S3 (d - 1) _ (gE.o.mk1 M8 hgS hgl1) s4 s6.o hse.o hgS l3 k7).mono ?_;rintro e w9 ⟨rfl,k9,M9⟩;rw[←hS4.o] at k9;have MA:=M8.trans M9;have kX9:=M9.blk kX8 hrg);refine hK.out _ _ (kX9.cell) ?_;clear aH hK K;intro aH;(try simp only[zz]);refine tk2 7 rfl aH (h:=?_);(try simp only[zz]);refine dn1 ?_;clear q6 l6 kX6 kX8 kX9;(go_wp2_with fail)
        go_round
        case rel=>exact ⟨j+1,S4,by omega,by go_num,rfl,l4,HR',k9,hM.trans MA⟩
        case measure=>simp[intOf];omega
   ·(go_wp2_with fail);go_ret;obtain rfl:j=n:=by omega
    have e1:L.drop j=.nil:=by rw[hn.o];exact Cms.drop_all L
    have h2:=HR.o;rw[e1] at h2;exact ⟨rfl,by rw[h2];exact kS,hM⟩
def Cms.one:Cms→Nat→Cms
 | .nil,_=>.nil
 | .cons k a b t i body els _,0=>.cons k a b t i body els .nil
 | .cons _ _ _ _ _ _ _ r,n+1=>r.one n
section
variable {w:World} {lo hi:Nat}
theorem CmsAt.one:∀ {L:Cms} {bl o:Nat} (n:Nat),CmsAt w lo hi L bl o→CmsAt w lo hi (L.one n) bl (o+n * 10)
 | .nil,_,_,_,h=>trivial
 | .cons k a b t i body els r,bl,o,0,h=>by
  rw[Nat.zero_mul,Nat.add_zero];exact ⟨h.1,h.2.1,h.2.2.1,h.2.2.2.1,h.2.2.2.2.1,trivial⟩
 | .cons k a b t i body els r,bl,o,n+1,h=>by
  have:=CmsAt.one n h.2.2.2.2.2
  rwa [show o+10+n * 10=o+(n+1) * 10 from by omega] at this
end
theorem fold_ls_bit:∀ (L:Cms) (S n:Nat),(L.fold lsF S).testBit n=(S.testBit n || (L.fold lsF 0).testBit n)
 | .nil,S,n=>by simp[Cms.fold]
 | .cons k a b t i body els r,S,n=>by
  simp only[Cms.fold];rw[fold_ls_bit r,fold_ls_bit els,fold_ls_bit body,fold_ls_bit r (els.fold lsF _),fold_ls_bit els (body.fold lsF (lsF 0 k a b t i)),fold_ls_bit body (lsF 0 k a b t i)];unfold lsF;rw[foldl_tsup_bit,foldl_tsup_bit];simp[Bool.or_assoc]
end
end Go.Proofs.YtjaohekkmlkinaaGreat
