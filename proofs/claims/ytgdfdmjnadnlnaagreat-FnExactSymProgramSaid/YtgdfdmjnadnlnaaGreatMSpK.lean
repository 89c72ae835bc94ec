/- Contracts: the reference's l10Cmd for a command without blocks. -/
import Derived.Test.YtgdfdmjnadnlnaaGreatMExeS
import Derived.Test.YtgdfdmjnadnlnaaGreatMCmdIc
import Derived.Test.YtgdfdmjnadnlnaaGreatTidyT
set_option linter.unusedSimpArgs false
set_option linter.unusedVariables false
set_option maxRecDepth 100000
set_option maxHeartbeats 25600000
namespace Go.Proofs.YtgdfdmjnadnlnaaGreat
section
open Go Go.RowKit Go.Proofs
attribute [local go_sem ↓] Go.wp_at_zero Go.wp_at_succ
theorem c_tidyS {lo hi lo' hi':Nat} (v:Value) (a:Asn) (B:Option Addr) (c:Nat) (ks:List Int) (w:World) (h:AsnV w lo hi v a) (hv:a.valid=true) (h':IntsV w lo' hi' B ks) :
  Calls Tryz.prog 190 #[v,.slice B ks.length c] w fun e w'=>∃ r,e=.returned (.tuple #[r,.bool true])∧AsnO w' w.heap.size r (tidyF (tset ks) a)∧Below w.heap.size w w':=by
 have h1:=c_spec_TidyAssertion v a B c ks w h h';unfold tidyB at h1;rw[if_pos hv] at h1;exact h1
theorem c_l10CmdB {lo hi lo1 hi1 lo2 hi2:Nat} (v:Value) (x:Asn) (k a b:Int) (t:Fct) (i:Asn) (A1 A2 A3 A4:Option Addr) (d1 d2 d3 d4:Nat) (body els:Cms) (B:Option Addr) (cb:Nat) (ks:List Int) (w:World) (h:AsnC w lo hi v x) (hhi:hi≤w.heap.size) (hxv:x.valid=true) (hf:fvalB k a b t i body els=true) (h6:k≠6) (h7:k≠7) (hI:AsnV w lo1 hi1 (.agg #[.slice A1 i.facts.length d1,.slice A2 i.atoms.length d2]) i) (h3:body.len≤1049600) (h4:els.len≤1049600) (hk:IntsV w lo2 hi2 B ks) (hkl:ks.length≤1049000) :
  Calls Tryz.prog 133 #[v,.agg #[.int .i64 k,.int .i64 a,.int .i64 b,.bool t.eq,.int .i64 t.a,.int .i64 t.b,.slice A1 i.facts.length d1,.slice A2 i.atoms.length d2,.slice A3 body.len d3,.slice A4 els.len d4],.slice B ks.length cb] w fun e w'=>∃ r vs,e=.returned (.tuple #[r,.bool (decide ((basX (tset ks) k a b x).1=0))])∧A2O w' w.heap.size r vs (basX (tset ks) k a b x).2∧Below w.heap.size w w':=by
 have HV:=ax h;obtain ⟨B1,e1,B2,e2,rfl,-⟩:=h;have hxl:=valid_len hxv;have HK:=ax hk;have hok:okC k a b t i body els=true:=by have:=hf;rw[fvalB_basic h6 h7] at this;exact this
 obtain ⟨res,hres⟩:∃ q,q=basX (tset ks) k a b x:=⟨_,rfl⟩;have ER:Hid (res=match symB x k a b (keepK (tset ks) a b) with|none=>(1,[])|some l=>(0,l.map (tidyF (tset ks)))):=ax (by rw[hres];rfl);have HOK:Hid (∀ l,symB x k a b (keepK (tset ks) a b)=some l→l.length≤128∧∀ y∈l,y.valid=true):=ax fun l hl=>symB_ok hxv (fvalB_store hf) hl;obtain ⟨sy,hsy⟩:∃ q,q=symB x k a b (keepK (tset ks) a b):=⟨_,rfl⟩
 have CS:Hid (∀ W lo hi v,AsnC W lo hi v x→hi≤W.heap.size→Below w.heap.size w W→Calls Tryz.prog 40 #[v,.agg #[.int .i64 k,.int .i64 a,.int .i64 b,.bool t.eq,.int .i64 t.a,.int .i64 t.b,.slice A1 i.facts.length d1,.slice A2 i.atoms.length d2,.slice A3 body.len d3,.slice A4 els.len d4],.slice B ks.length cb] W fun e w'=>∃ r,e=.returned (.tuple #[r,.bool sy.isSome])∧AsnsR w' W.heap.size r (sy.getD [])∧Below W.heap.size W w'):=ax fun W lo hi v h1 h2 h5=>by
  have:=c_spec_SymBasic v x k a b t i body els A1 A2 A3 A4 d1 d2 d3 d4 B cb ks W h1 h2 (hI.below h5) h3 h4 (hk.below h5) hkl;rw[hok] at this;unfold symR at this;rw[hxv] at this;rw[hsy];exact this
 rw[←hsy] at ER HOK;rw[←hres];obtain ⟨K,hK⟩:∃ K,K=tset ks:=⟨_,rfl⟩;rw[←hK] at ER;have CT:Hid (∀ W lo hi v s,AsnV W lo hi v s→s.valid=true→Below w.heap.size w W→Calls Tryz.prog 190 #[v,.slice B ks.length cb] W fun e w'=>∃ r,e=.returned (.tuple #[r,.bool true])∧AsnO w' W.heap.size r (tidyF K s)∧Below W.heap.size W w'):=ax fun W lo hi v s h1 h2 h5=>by rw[hK];exact c_tidyS v s B cb ks W h1 h2 (hk.below h5)
 have b6:(k == 6)=false:=beq_false_of_ne h6;have b7:(k == 7)=false:=beq_false_of_ne h7;clear hres hI hk hf hok hsy hK h6 h7 h3 h4;(go_enter Tryz.func133,Tryz.ntmps133);(go_upto_region 1 with fail);refine bx2 (w:=w) (F:=Code.wp _ _ _ _) ?_;rintro W k3 k4 HB hz;replace HB:=ax HB;(replace qk3:=k3.z;replace qk4:=k4.z);(go_wp2_with fail);refine (CS.out _ _ _ _ (HV.out.below HB.out) (by omega) HB.out).mono ?_;rintro e w1 ⟨r1,rfl,⟨⟨vs,o1⟩,-⟩,hB1⟩;have HB1:=ax (bgo HB.out hB1);have hz1:=hB1.size;clear hB1 CS;obtain ⟨l,hl⟩:∃ l,l=sy.getD []:=⟨_,rfl⟩;obtain ⟨okb,hokb⟩:∃ q,q=sy.isSome:=⟨_,rfl⟩
 have E1:Hid (decide (res.1=0)=okb):=ax (by
  rw[ER.out,hokb];cases sy with
  | none=>rfl
  | some l=>rfl)
 have E2:Hid (res.2=l.map (tidyF K)):=ax (by
  rw[ER.out,hl];cases sy with
  | none=>rfl
  | some l=>rfl)
 have hlv:l.length≤128∧∀ y∈l,y.valid=true:=by
  rw[hl];cases sy with
  | none=>exact ⟨Nat.zero_le _,fun _ h=>by cases h⟩
  | some l=>exact HOK.out l rfl
 rw[←hl] at o1;rw[←hokb];obtain ⟨hll,hlv⟩:=hlv;have HLV:=ax hlv;obtain ⟨R,r,rfl⟩:=o1.form;have O1:=ax o1;clear ER HOK hlv o1 hl hokb qk3 qk4 k3 k4;(go_wp2_with fail)
 go_loopw [10,11] (fun s10 ix wr=>∃ (j:Nat) (R2:Option Addr) (r2:Nat) (us:List Value),j≤l.length∧ix=.int .i64 j∧s10=.slice R2 j r2∧Hid (A2O wr w1.heap.size (.slice R2 j r2) us ((l.take j).map (tidyF K)))∧Hid (Below w1.heap.size w1 wr)) (fun _ ix _=>l.length - (intOf ix).toNat)
 case atStart=>exact ⟨0,some ⟨w1.heap.size,0,none⟩,0,[],Nat.zero_le _,rfl,rfl,A2O.empty w1 rfl,bbox (Below.refl _ _) _⟩
 case round=>
  obtain ⟨j,R2,r2,us,hj,rfl,rfl,OJ,HBr⟩:=hrel;have hzr:=HBr.out.size;by_cases hlt:j<l.length
  ·obtain ⟨g,o2,P,p,Q,q,rfl,lb,g0,g1,hC⟩:=(O1.out.below HBr.out).now j hlt;have HT:Hid ((l.take (j+1)).map (tidyF K)=(l.take j).map (tidyF K)++[tidyF K l[j]]):=ax (by rw[List.take_succ_eq_append_getElem hlt,List.map_append];rfl);have HM:=ax (HLV.out _ (List.getElem_mem hlt));have HL:Hid (((l.take j).map (tidyF K)).length=j):=ax (by rw[List.length_map,List.length_take];omega);obtain ⟨s,hs⟩:∃ s,s=l[j]:=⟨_,rfl⟩;rw[←hs] at g0 g1 hC HM HT;have HC:=ax hC;have hji:(j:Int)<(l.length:Int):=by omega
   clear hs hC;(go_wp2_with fail);refine (CT.out _ _ _ _ s HC.out.V HM.out (bgo HB1.out HBr.out)).mono ?_;rintro e w2 ⟨r3,rfl,o3,hB2⟩;obtain ⟨F,f,G,g',rfl⟩:=o3.I.form;have HB2:=ax hB2;have hz2:=hB2.size;have O3:=ax o3;have hjl:Hid (((l.take j).map (tidyF K)).length+1≤1049600):=ax (by rw[HL.out];omega);clear o3 hB2 g0 g1;(go_wp2_with (at_builtin;refine appA2 (w0:=wr) (base:=w1.heap.size) (mid:=wr.heap.size) (ss2:=[tidyF K s]) rfl _ _ rfl rfl OJ.out (bbox (bbox HB2.out _) _) hzr (A2O.one (g:=w2.heap.size+1) (Blk.newE (by simp)) (by omega) (AsnO.below O3.out (bbox (bbox (Below.refl _ _) _) _))) (Nat.le_refl _) rfl hjl.out ?_;intro A3' c3 w3 hO3 hg3 hB3;have O4:=ax hO3;have HB3:=ax (((HBr.out.trans (HB2.out.mono hzr)).trans (Below.mono (bbox (bbox (Below.refl _ _) (.cells #[.slice F (tidyF K s).facts.length f,.slice G (tidyF K s).atoms.length g'] tAs)) (.cells #[.slice F (tidyF K s).facts.length f,.slice G (tidyF K s).atoms.length g'] tAs)) (by omega))).trans hB3);clear hO3 hg3 hB3;rw[←HT.out] at O4;simp only[List.length_cons,List.length_nil,Nat.zero_add] at O4 ⊢;rw[HL.out] at O4 ⊢))
   go_round
   case rel=>exact ⟨j+1,A3',c3,_,by omega,by go_num,rfl,O4,HB3⟩
   case measure=>simp[intOf];omega
  ·obtain rfl:j=l.length:=by omega
   have OF:Hid (A2O wr w1.heap.size (.slice R2 l.length r2) us res.2):=ax (by have:=OJ.out;rw[List.take_length] at this;rw[E2.out];exact this);clear OJ;(go_wp2_with fail);go_ret2;exact ⟨_,us,by rw[E1.out];rfl,OF.out.lower (by omega),bgo HB1.out HBr.out⟩
def Run10 (K:Nat) (L:Cms):Prop:=∀ (base lo1 hi1 lo2 hi2:Nat) (A:Option Addr) (c:Nat) (vs:List Value) (now:List Asn) (Al:Option Addr) (cl:Nat) (B:Option Addr) (cb:Nat) (ks:List Int) (w:World),A2O w base (.slice A now.length c) vs now→base≤w.heap.size→(∀ s∈now,s.valid=true)→now.length≤24→CmsV w lo1 hi1 Al L→hi1≤w.heap.size→IntsV w lo2 hi2 B ks→tset ks=K→ks.length≤1000→
 Calls Tryz.prog 82 #[.slice A now.length c,.slice Al L.len cl,.slice B ks.length cb] w fun e w'=>∃ r vs',e=.returned (.tuple #[r,.bool (decide ((L.exe false K now).1=0))])∧A2O w' base r vs' (L.exe false K now).2∧(vs'=vs∨∀ u∈vs',∀ g,u.ownBlock=some g→w.heap.size≤g)∧Below w.heap.size w w'
def Run11 (K:Nat) (L:Cms):Prop:=∀ (base lo1 hi1 lo2 hi2:Nat) (A:Option Addr) (c:Nat) (vs:List Value) (now:List Asn) (Al:Option Addr) (cl:Nat) (B:Option Addr) (cb:Nat) (ks:List Int) (w:World),A2O w base (.slice A now.length c) vs now→base≤w.heap.size→(∀ s∈now,s.valid=true)→now.length≤24→CmsV w lo1 hi1 Al L→hi1≤w.heap.size→IntsV w lo2 hi2 B ks→tset ks=K→ks.length≤1000→
 Calls Tryz.prog 59 #[.slice A now.length c,.slice Al L.len cl,.slice B ks.length cb] w fun e w'=>∃ r vs',e=.returned (.tuple #[r,.int .i64 (L.exe true K now).1])∧A2O w' base r vs' (L.exe true K now).2∧Below w.heap.size w w'
theorem c_consS {lo hi:Nat} (v:Value) (a:Asn) (w:World) (h:AsnV w lo hi v a):Calls Tryz.prog 166 #[v] w fun e w'=>e=.returned (.bool (consB a))∧Below w.heap.size w w':=c_spec_Consistent v a w h
theorem starA_addF (a:Asn) (f:Fct):starA a ⟨[f],[]⟩=addF a f:=by simp[starA,addF]
end
end Go.Proofs.YtgdfdmjnadnlnaaGreat
