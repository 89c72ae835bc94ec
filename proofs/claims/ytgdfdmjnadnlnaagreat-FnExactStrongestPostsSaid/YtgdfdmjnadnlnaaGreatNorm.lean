/- Normal forms: impl. -/
import Derived.Test.YtgdfdmjnadnlnaaGreatMCmdF
set_option linter.unusedSimpArgs false
set_option linter.unusedVariables false
set_option maxRecDepth 100000
set_option maxHeartbeats 25600000
namespace Go.Proofs.YtgdfdmjnadnlnaaGreat
section
open Go Go.RowKit Go.Proofs
attribute [local go_sem ↓] Go.wp_at_zero Go.wp_at_succ
theorem contains_take (f:Fct) (acc:List Fct) (j:Nat) (h:j<acc.length):(acc.take (j+1)).contains f=((acc.take j).contains f || decide (f=acc[j])):=by
 rw[List.take_succ_eq_append_getElem h,List.contains_append];simp
theorem c_impl_normalForm {lo hi:Nat} (v:Value) (a:Asn) (w:World) (h:AsnV w lo hi v a) :
  Calls Tryz.prog 240 #[v] w fun e w'=>∃ r,e=.returned r∧AsnO w' w.heap.size r (normalF a)∧Below w.heap.size w w':=by
 obtain ⟨A1,c1,A2,c2,rfl,h1,h2⟩:=h;have l1:=h1.le;have l2:=h2.le;(go_enter Tryz.func240,Tryz.ntmps240);obtain ⟨k0,k1,k2⟩:=blk3 w 36 36 36 #[.slice A1 a.facts.length c1,.slice A2 a.atoms.length c2] #[.slice none 0 0,.slice none 0 0] #[.slice none 0 0,.slice none 0 0];(go_wp2_with fail)
 go_loopw [14] (fun i wr=>∃ (k:Nat) (acc:List Fct) (A:Option Addr) (c:Nat),k≤a.facts.length∧i=.int .i64 k∧acc.length≤k∧aJ (a.facts.foldl nfStep []=(a.facts.drop k).foldl nfStep acc)∧FactsO wr (w.heap.size+1) (.slice A acc.length c) acc∧
   Blk wr w.heap.size 36 #[.slice A1 a.facts.length c1,.slice A2 a.atoms.length c2]∧Blk wr (w.heap.size+1) 36 #[.slice none 0 0,.slice none 0 0]∧Blk wr (w.heap.size+1+1) 36 #[.slice A acc.length c,.slice none 0 0]∧Below w.heap.size w wr) (fun i _=>a.facts.length - (intOf i).toNat)
 case atStart=>exact ⟨0,[],none,0,Nat.zero_le _,rfl,Nat.le_refl _,rfl,FactsO.nil _ _,k0,k1,k2,bel⟩
 case round=>
  clear k0 k1 k2;obtain ⟨k,acc,A,c,hk,rfl,hal,HA,of,k0,k1,k2,hB⟩:=hrel;(replace qk0:=k0.z;replace qk1:=k1.cell;replace rk1:=k1.frozen;replace lk1:=k1.lt;replace qk2:=k2.cell;replace rk2:=k2.frozen;replace lk2:=k2.lt);have hk2l:=k2.lt;by_cases hlt:k<a.facts.length
  ·obtain ⟨b,off,rfl,hbl⟩:=h1.blt hlt;obtain ⟨g0,g1,g2⟩:=(h1.bz hB).cl hlt;have HD:=ax (foldl_drop_step nfStep a.facts k hlt acc);cases hsk:(a.facts[k].eq&&(a.facts[k].a == a.facts[k].b))
   ·have HS:aJ (nfStep acc a.facts[k]=if acc.contains (nfF a.facts[k]) then acc else acc++[nfF a.facts[k]]):=by show _=_;rw[nfStep,hsk];rfl
    obtain ⟨f',hf'⟩:∃ f',f'=nfF a.facts[k]:=⟨_,rfl⟩;obtain ⟨cs,hcs⟩:∃ cs:Array Value,cs=#[.bool f'.eq,.int .i64 f'.a,.int .i64 f'.b]:=⟨_,rfl⟩;rw[←hf'] at HS;have HCS:=ax hcs;by_cases hba:a.facts[k].b<a.facts[k].a
    case' pos=>rw[nfF,if_pos hba] at hf'
    case' neg=>rw[nfF,if_neg hba] at hf'
    all_goals
     cases he:a.facts[k].eq
     all_goals
      rw[he] at g0;(try have hne:(a.facts[k].a == a.facts[k].b)=false:=by simpa [he] using hsk)
    case' pos.false=>have E:=ax (show #[Value.bool false,.int .i64 a.facts[k].b,.int .i64 a.facts[k].a]=cs by rw[hcs,hf',←he])
    case' pos.true=>have E:=ax (show #[Value.bool true,.int .i64 a.facts[k].b,.int .i64 a.facts[k].a]=cs by rw[hcs,hf',←he])
    case' neg.false=>have E:=ax (show #[Value.bool false,.int .i64 a.facts[k].a,.int .i64 a.facts[k].b]=cs by rw[hcs,hf',←he])
    case' neg.true=>have E:=ax (show #[Value.bool true,.int .i64 a.facts[k].a,.int .i64 a.facts[k].b]=cs by rw[hcs,hf',←he])
    all_goals
     clear hsk he hf' hcs;(go_wp2_with fail);rw[E.o];have kf:=Blk.new wr tF cs;replace of:=of.bz (w':=wr.alloc (.cells cs tF)) bel;replace k0:=k0.alloc (.cells cs tF);replace k1:=k1.alloc (.cells cs tF);replace k2:=k2.alloc (.cells cs tF);replace hB:=bbox hB (.cells cs tF);generalize (wr.alloc (.cells cs tF))=V at kf of k0 k1 k2 hB ⊢;clear qk0 qk1 rk1 qk2 rk2 lk1 lk2 g0 g1 g2 E;obtain ⟨pf,hpf⟩:∃ p,p=wr.heap.size:=⟨_,rfl⟩;rw[←hpf] at kf hk2l ⊢;clear hpf;rw[HCS.o] at kf
     go_loopw [6,41] (fun kn j wr=>∃ jj:Nat,jj≤acc.length∧j=.int .i64 jj∧kn=.bool ((acc.take jj).contains f')∧FactsO wr (w.heap.size+1) (.slice A acc.length c) acc∧
      Blk wr w.heap.size 36 #[.slice (some ⟨b,off,none⟩) a.facts.length c1,.slice A2 a.atoms.length c2]∧Blk wr (w.heap.size+1) 36 #[.slice none 0 0,.slice none 0 0]∧Blk wr (w.heap.size+1+1) 36 #[.slice A acc.length c,.slice none 0 0]∧
      Blk wr pf tF #[.bool f'.eq,.int .i64 f'.a,.int .i64 f'.b]∧Below w.heap.size w wr) (fun _ j _=>acc.length - (intOf j).toNat)
     case atStart=>exact ⟨0,Nat.zero_le _,rfl,by simp,of,k0,k1,k2,kf,hB⟩
     case round=>
      clear of k0 k1 k2 kf hB;obtain ⟨jj,hjj,rfl,rfl,of,k0,k1,k2,kf,hB⟩:=hrel;have qk2:=k2.cell;have rk2:=k2.frozen;have qkf:=kf.cell;have lk2:=k2.lt;have lkf:=kf.lt;have hlacc:acc.length≤1049600:=of.2;by_cases hjl:jj<acc.length
      ·obtain ⟨b2,o2,rfl,hb2⟩:=of.readsI.2.blt hjl;obtain ⟨e0,e1,e2⟩:=of.readsI.2.cl hjl;have HC:=ax (contains_take f' acc jj hjl);cases hkn:(acc.take jj).contains f'
       all_goals
        have HKN:=ax hkn;clear hkn;(go_wp2_with fail)
        all_goals
         go_round
         case rel=>
          refine ⟨jj+1,by omega,by go_num,?_,of.bz bel,k0.alloc _,k1.alloc _,k2.alloc _,kf.alloc _,bel⟩
          first
           | (rw[HC.o,HKN.o,Bool.true_or];done)
           | rw[HC.o,HKN.o,Bool.false_or,decide_eq_true ((Fct.eq_iff _ _).2 ⟨Eq.symm ‹acc[jj].eq=f'.eq›,Eq.symm ‹acc[jj].a=f'.a›,Eq.symm ‹acc[jj].b=f'.b›⟩)]
           | rw[HC.o,HKN.o,Bool.false_or,decide_eq_false (fun h=>‹¬acc[jj].eq=f'.eq› (by rw[h]))]
           | rw[HC.o,HKN.o,Bool.false_or,decide_eq_false (fun h=>‹¬acc[jj].a=f'.a› (by rw[h]))]
           | rw[HC.o,HKN.o,Bool.false_or,decide_eq_false (fun h=>‹¬acc[jj].b=f'.b› (by rw[h]))]
         case measure=>simp[intOf];omega
      ·obtain rfl:jj=acc.length:=by omega
       rw[List.take_length];cases hkn:acc.contains f'
       ·have HN:=ax (show nfStep acc a.facts[k]=acc++[f'] by rw[HS.o,hkn];rfl);clear hkn;have of1:=of.bz (w':=wr.alloc (.cells #[.bool f'.eq,.int .i64 f'.a,.int .i64 f'.b] tF)) bel;(go_wp2_with (at_builtin;refine appFL rfl _ _ rfl (v:=.slice A acc.length c) rfl of1 rfl (FactsV.one (Blk.new wr _ _)) (by simp;omega) (by simp;omega) ?_;intro A' c' w2 of2 hg2 hB3;have z2:=Blk.grownO (g:=w.heap.size+1+1) (k2.alloc _) of1.1 hg2 (by decide);have z2c:=z2.cell;have z2f:=z2.frozen));have z0:=Blk.grownO (g:=w.heap.size) (k0.alloc _) of1.1 hg2 (by decide);have z1:=Blk.grownO (g:=w.heap.size+1) (k1.alloc _) of1.1 hg2 (by decide);have hBw2:=Below.trans (bbox hB _) (hB3.mono (Nat.le_succ _))
        go_round
        case rel=>
         refine ⟨k+1,acc++[f'],A',c',by omega,by go_num,by simp;omega,by show _=_;rw[HA.o,HD.o,HN.o],?_,z0.far (by simp only[];omega) _,z1.far (by simp only[];omega) _,?_,bel⟩
         ·simpa using of2.setT z2 (by decide) _ _
         ·simpa using z2.set_ 0 (.slice A' (acc.length+1) c')
        case measure=>simp[intOf];omega
       ·have HN:=ax (show nfStep acc a.facts[k]=acc by rw[HS.o,hkn];rfl);clear hkn;(go_wp2_with fail)
        go_round
        case rel=>exact ⟨k+1,acc,A,c,by omega,by go_num,by omega,by show _=_;rw[HA.o,HD.o,HN.o],of,k0,k1,k2,hB⟩
        case measure=>simp[intOf];omega
   ·have HN:=ax (show nfStep acc a.facts[k]=acc by rw[nfStep,hsk];rfl);have he:a.facts[k].eq=true:=by simp at hsk;exact hsk.1
    have hab:(a.facts[k].a == a.facts[k].b)=true:=by simp at hsk;simpa using hsk.2
    rw[he] at g0;clear hsk he;(go_wp2_with fail)
    go_round
    case rel=>exact ⟨k+1,acc,A,c,by omega,by go_num,by omega,by show _=_;rw[HA.o,HD.o,HN.o],of.bz bel,k0.alloc _,k1.alloc _,k2.alloc _,bel⟩
    case measure=>simp[intOf];omega
  ·obtain rfl:k=a.facts.length:=by omega
   have HN:=ax (show a.facts.foldl nfStep []=acc by rw[HA.o,List.drop_length];rfl);have HL:aJ (normalF a=⟨acc,a.atoms.filter nfA⟩):=by show _=_;rw[normalF,HN.o]
   clear HA HN;(go_wp2_with fail)
   go_loopw [64] (fun i wr=>∃ (k:Nat) (B:Option Addr) (d:Nat),k≤a.atoms.length∧i=.int .i64 k∧FactsO wr (w.heap.size+1) (.slice A acc.length c) acc∧AtomsO wr (w.heap.size+1) (.slice B ((a.atoms.take k).filter nfA).length d) ((a.atoms.take k).filter nfA)∧
    Blk wr w.heap.size 36 #[.slice A1 a.facts.length c1,.slice A2 a.atoms.length c2]∧Blk wr (w.heap.size+1) 36 #[.slice none 0 0,.slice none 0 0]∧Blk wr (w.heap.size+1+1) 36 #[.slice A acc.length c,.slice B ((a.atoms.take k).filter nfA).length d]∧Below w.heap.size w wr) (fun i _=>a.atoms.length - (intOf i).toNat)
   case atStart=>exact ⟨0,none,0,Nat.zero_le _,rfl,of,AtomsO.nil _ _,k0,k1,k2,bel⟩
   case round=>
    clear k0 k1 k2 of hB qk0 qk1 rk1 qk2 rk2 lk1 lk2;obtain ⟨k,B,d,hk,rfl,of,oa,k0,k1,k2,hB⟩:=hrel;(replace qk0:=k0.z;replace qk1:=k1.cell;replace rk1:=k1.frozen;replace lk1:=k1.lt;replace qk2:=k2.cell;replace rk2:=k2.frozen;replace lk2:=k2.lt);have hk2l:=k2.lt;by_cases hlt:k<a.atoms.length
    ·obtain ⟨b,off,rfl,hbl⟩:=h2.blt hlt;obtain ⟨g0,g1,g2⟩:=(h2.bz hB).cl hlt;have HT:=ax (filter_take nfA a.atoms k hlt);have hflen:((a.atoms.take k).filter nfA).length≤k:=Nat.le_trans (List.length_filter_le _ _) (by simp;omega);obtain ⟨xs,hxs⟩:∃ xs,xs=(a.atoms.take k).filter nfA:=⟨_,rfl⟩;rw[←hxs] at HT hflen oa k2 qk2;have HX:=ax hxs;clear hxs;cases hk2:(a.atoms[k].kind != 2)
     ·cases hab:(a.atoms[k].a != a.atoms[k].b)
      ·have HN:aJ ((a.atoms.take (k+1)).filter nfA=xs):=by show _=_;rw[HT.o,nfA,hk2,hab];simp
       have hab2:(a.atoms[k].a == a.atoms[k].b)=true:=by simpa using hab
       go_wp2_with fail
       go_round
       case rel=>exact ⟨k+1,B,d,by omega,by go_num,of.bz bel,by rw[HN.o];exact oa.bz bel,k0.alloc _,k1.alloc _,by rw[HN.o];exact k2.alloc _,bel⟩
       case measure=>simp[intOf];omega
      ·have HN:aJ ((a.atoms.take (k+1)).filter nfA=xs++[a.atoms[k]]):=by show _=_;rw[HT.o,nfA,hk2,hab];simp
       have hab2:(a.atoms[k].a == a.atoms[k].b)=false:=by simpa using hab
       have oa1:=(oa.bz (w':=wr.alloc (.cells #[.int .i64 a.atoms[k].kind,.int .i64 a.atoms[k].a,.int .i64 a.atoms[k].b] tA)) bel).bz (w':=(wr.alloc (.cells #[.int .i64 a.atoms[k].kind,.int .i64 a.atoms[k].a,.int .i64 a.atoms[k].b] tA)).alloc (.cells #[.int .i64 a.atoms[k].kind,.int .i64 a.atoms[k].a,.int .i64 a.atoms[k].b] tA)) bel;(go_wp2_with (at_builtin;refine appAL rfl _ _ rfl (v:=.slice B xs.length d) rfl oa1 rfl (AtomsV.one (f:=a.atoms[k]) (Blk.newE (by simp))) (by simp;omega) (by simp;omega) ?_;intro B' d' w2 oa2 hg2 hB3;have z2:=Blk.grownO (g:=w.heap.size+1+1) ((k2.alloc _).alloc _) oa1.1 hg2 (by decide);have z2c:=z2.cell;have z2f:=z2.frozen));have z0:=Blk.grownO (g:=w.heap.size) ((k0.alloc _).alloc _) oa1.1 hg2 (by decide);have z1:=Blk.grownO (g:=w.heap.size+1) ((k1.alloc _).alloc _) oa1.1 hg2 (by decide);have hBw2:=Below.trans (bbox (bbox hB _) _) (hB3.mono (Nat.le_succ _));have of2:=FactsO.grownA ((of.bz (w':=wr.alloc (.cells #[.int .i64 a.atoms[k].kind,.int .i64 a.atoms[k].a,.int .i64 a.atoms[k].b] tA)) bel).bz (w':=(wr.alloc (.cells #[.int .i64 a.atoms[k].kind,.int .i64 a.atoms[k].a,.int .i64 a.atoms[k].b] tA)).alloc (.cells #[.int .i64 a.atoms[k].kind,.int .i64 a.atoms[k].a,.int .i64 a.atoms[k].b] tA)) bel) oa1 hg2
       go_round
       case rel=>
        refine ⟨k+1,B',d',by omega,by go_num,of2.setT z2 (by decide) _ _,?_,z0.far (by simp only[];omega) _,z1.far (by simp only[];omega) _,?_,bel⟩
        ·rw[HN.o];simpa using oa2.setT z2 (by decide) _ _
        ·rw[HN.o];simpa using z2.set_ 1 (.slice B' (xs.length+1) d')
       case measure=>simp[intOf];omega
     ·have HN:aJ ((a.atoms.take (k+1)).filter nfA=xs++[a.atoms[k]]):=by show _=_;rw[HT.o,nfA,hk2];simp
      have oa1:=(oa.bz (w':=wr.alloc (.cells #[.int .i64 a.atoms[k].kind,.int .i64 a.atoms[k].a,.int .i64 a.atoms[k].b] tA)) bel).bz (w':=(wr.alloc (.cells #[.int .i64 a.atoms[k].kind,.int .i64 a.atoms[k].a,.int .i64 a.atoms[k].b] tA)).alloc (.cells #[.int .i64 a.atoms[k].kind,.int .i64 a.atoms[k].a,.int .i64 a.atoms[k].b] tA)) bel;(go_wp2_with (at_builtin;refine appAL rfl _ _ rfl (v:=.slice B xs.length d) rfl oa1 rfl (AtomsV.one (f:=a.atoms[k]) (Blk.newE (by simp))) (by simp;omega) (by simp;omega) ?_;intro B' d' w2 oa2 hg2 hB3;have z2:=Blk.grownO (g:=w.heap.size+1+1) ((k2.alloc _).alloc _) oa1.1 hg2 (by decide);have z2c:=z2.cell;have z2f:=z2.frozen));have z0:=Blk.grownO (g:=w.heap.size) ((k0.alloc _).alloc _) oa1.1 hg2 (by decide);have z1:=Blk.grownO (g:=w.heap.size+1) ((k1.alloc _).alloc _) oa1.1 hg2 (by decide);have hBw2:=Below.trans (bbox (bbox hB _) _) (hB3.mono (Nat.le_succ _));have of2:=FactsO.grownA ((of.bz (w':=wr.alloc (.cells #[.int .i64 a.atoms[k].kind,.int .i64 a.atoms[k].a,.int .i64 a.atoms[k].b] tA)) bel).bz (w':=(wr.alloc (.cells #[.int .i64 a.atoms[k].kind,.int .i64 a.atoms[k].a,.int .i64 a.atoms[k].b] tA)).alloc (.cells #[.int .i64 a.atoms[k].kind,.int .i64 a.atoms[k].a,.int .i64 a.atoms[k].b] tA)) bel) oa1 hg2
      go_round
      case rel=>
       refine ⟨k+1,B',d',by omega,by go_num,of2.setT z2 (by decide) _ _,?_,z0.far (by simp only[];omega) _,z1.far (by simp only[];omega) _,?_,bel⟩
       ·rw[HN.o];simpa using oa2.setT z2 (by decide) _ _
       ·rw[HN.o];simpa using z2.set_ 1 (.slice B' (xs.length+1) d')
      case measure=>simp[intOf];omega
    ·obtain rfl:k=a.atoms.length:=by omega
     rw[List.take_length] at oa k2 qk2;(go_wp2_with fail);refine bodyPost_ret (v:=.agg #[.slice A acc.length c,.slice B (a.atoms.filter nfA).length d]) (by simp[results,Tryz.results240,go_sem,qk1]) rfl ⟨_,rfl,?_,bel⟩;rw[HL.o];exact ⟨_,_,rfl,((of.setT k1 (by decide) _ _).setT (k1.set_ _ _) (by decide) _ _).lower (by omega),((oa.setT k1 (by decide) _ _).setT (k1.set_ _ _) (by decide) _ _).lower (by omega)⟩
end
end Go.Proofs.YtgdfdmjnadnlnaaGreat
