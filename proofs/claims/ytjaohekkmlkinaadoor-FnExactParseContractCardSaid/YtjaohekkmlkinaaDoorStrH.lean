/- Contracts: facts and atoms from texts (spec). -/
import Derived.Test.YtjaohekkmlkinaaDoorStrF
set_option linter.unusedSimpArgs false
set_option linter.unusedVariables false
namespace Go.Proofs.YtjaohekkmlkinaaDoor
open Go Go.RowKit Go.Proofs
theorem u8_eq (c:UInt8) (n:Nat) (hn:n<256):((c.toNat:Int) == (n:Int))=decide (c=UInt8.ofNat n):=by
 rw[Bool.eq_iff_iff,beq_iff_eq,decide_eq_true_iff]
 constructor
 ·intro h
  have:c.toNat=n:=by omega
  rw[←this];simp
 ·rintro rfl
  rw[UInt8.toNat_ofNat',Nat.mod_eq_of_lt (by omega)]
theorem parseF_cut {l:Bs} {k:Nat} (hl:l.length≤9) (hk:k<l.length) (h:l[k]=61) (hn:∀ j (hj:j<k),l[j]≠61) :
  parseF l=if (l.take k).getLast? = some 33 then pairF false (l.take k).dropLast (l.drop (k+1)) else pairF true (l.take k) (l.drop (k+1)):=by
 unfold parseF
 rw[if_neg (by omega),cutAt_at hk h hn]
theorem parseF_no {l:Bs} (hn:∀ j (hj:j<l.length),l[j]≠61):parseF l=none:=by
 unfold parseF
 rw[cutAt_no hn]
 split<;>rfl
def fct0:Fct:=⟨false,0,0⟩
set_option maxRecDepth 100000 in
set_option maxHeartbeats 6400000 in
theorem c_ParseFact (l:Bs) (w:World):Calls Tryd.prog 65 #[sv l] w fun e w'=>e=.returned (.tuple #[((parseF l).getD fct0).val,.bool (parseF l).isSome])∧Below w.heap.size w w':=by
 by_cases hl:l.length≤9
 ·have hli:(l.length:Int)≤9:=by omega
  go_enter Tryd.func65,Tryd.ntmps65
  go_wp2_with fail
  go_loopw [4] (fun i wr=>∃ k:Nat,k≤l.length∧i=.int .i64 k∧Hid (∀ j (hj:j<k) (hj2:j<l.length),l[j]≠61)∧wr=w.alloc (.cells #[.bool false,.int .i64 0,.int .i64 0] tF)) (fun i _=>l.length - (intOf i).toNat)
  case atStart=>exact ⟨0,by omega,rfl,Lib.hid fun j h=>by omega,rfl⟩
  case round=>
   obtain ⟨k,hk,rfl,HN,rfl⟩:=hrel
   by_cases hlt:k<l.length
   ·have hki:(k:Int)<(l.length:Int):=by omega
    have hx:=bidx l k hlt
    by_cases hc:l[k]=61
    ·have HP:=Lib.hid (parseF_cut hl hlt hc fun j hj=>HN.out j hj (by omega))
     obtain ⟨c,hcc⟩:∃ c,c=l[k]:=⟨_,rfl⟩
     rw[←hcc] at hx hc
     have hb:((c.toNat:Int) == 61)=true:=by rw[show (61:Int)=((61:Nat):Int) from rfl,u8_eq c 61 (by decide)];simpa using hc
     clear hcc hc
     by_cases hk0:0<k
     ·obtain ⟨m,hm⟩:∃ m,m+1=k:=⟨k - 1,by omega⟩
      have hk0i:(0:Int)<(k:Int):=by omega
      have hmi:(k:Int) - 1=(m:Int):=by omega
      have hml:(m:Int)<(l.length:Int):=by omega
      have hx2:=bidx l m (by omega)
      have hL0:(l.take k).getLast? = some (l[m]'(by omega)):=by
       subst hm
       rw[List.getLast?_eq_getElem?,List.length_take,Nat.min_eq_left (by omega),Nat.add_sub_cancel,List.getElem?_take,if_pos (by omega),List.getElem?_eq_getElem (by omega)]
      have hdrop:(l.take k).dropLast=l.take m:=by
       subst hm
       rw[List.dropLast_take (by omega),Nat.add_sub_cancel]
      obtain ⟨d,hdd⟩:∃ d,d=l[m]'(by omega):=⟨_,rfl⟩
      rw[←hdd] at hx2 hL0
      clear hdd
      by_cases hd:d=33
      ·have hb2:((d.toNat:Int) == 33)=true:=by rw[show (33:Int)=((33:Nat):Int) from rfl,u8_eq d 33 (by decide)];simpa using hd
       have hlast:(l.take k).getLast? = some 33:=by rw[hL0,hd]
       clear hL0 hd hm
       obtain ⟨pa,hpa⟩:∃ x,x=parseT ((l.drop 0).take (m - 0)):=⟨_,rfl⟩
       have ca:=fun w=>c_ParseTermX l 0 m w
       rw[←hpa] at ca
       replace ca:=Lib.hid ca
       obtain ⟨pb,hpb⟩:∃ x,x=parseT ((l.drop (k+1)).take (l.length - (k+1))):=⟨_,rfl⟩
       have cb:=fun w=>c_ParseTermX l (k+1) l.length w
       rw[←hpb] at cb
       replace cb:=Lib.hid cb
       have hE:Hid (parseF l=pairP false pa pb):=Lib.hid (by
        rw[HP.out,hpa,hpb,List.drop_zero,Nat.sub_zero,List.take_of_length_le (l:=l.drop (k+1)) (by simp)]
        rw[if_pos hlast,hdrop];rfl)
       clear hpa hpb HP
       cases pa with
       | none=>
        have hR:Hid (parseF l=none):=Lib.hid hE.out
        clear hE
        go_wp2_with fail
        refine (ca.out _).mono ?_
        rintro e w2 ⟨rfl,rfl⟩
        go_wp2_with fail
        refine (cb.out _).mono ?_
        rintro e w2 ⟨rfl,rfl⟩
        go_wp2_with fail
        refine bodyPost_ret (v:=.tuple #[.agg #[.bool false,.int .i64 0,.int .i64 0],.bool false]) (by simp[results,Tryd.results65,go_sem]) rfl ⟨by rw[hR.out];rfl,bel⟩
       | some a=>
        cases pb with
        | none=>
         have hR:Hid (parseF l=none):=Lib.hid hE.out
         clear hE
         go_wp2_with fail
         refine (ca.out _).mono ?_
         rintro e w2 ⟨rfl,rfl⟩
         go_wp2_with fail
         refine (cb.out _).mono ?_
         rintro e w2 ⟨rfl,rfl⟩
         go_wp2_with fail
         refine bodyPost_ret (v:=.tuple #[.agg #[.bool false,.int .i64 0,.int .i64 0],.bool false]) (by simp[results,Tryd.results65,go_sem]) rfl ⟨by rw[hR.out];rfl,bel⟩
        | some b=>
         have hR:Hid (parseF l=some ⟨false,(a:Int),(b:Int)⟩):=Lib.hid hE.out
         clear hE
         go_wp2_with fail
         refine (ca.out _).mono ?_
         rintro e w2 ⟨rfl,rfl⟩
         go_wp2_with fail
         refine (cb.out _).mono ?_
         rintro e w2 ⟨rfl,rfl⟩
         go_wp2_with fail
         refine bodyPost_ret (v:=.tuple #[.agg #[.bool false,.int .i64 a,.int .i64 b],.bool true]) (by simp[results,Tryd.results65,go_sem]) rfl ⟨by rw[hR.out];rfl,bel⟩
      ·have hb2:((d.toNat:Int) == 33)=false:=by rw[show (33:Int)=((33:Nat):Int) from rfl,u8_eq d 33 (by decide)];simpa using hd
       have hlast:¬(l.take k).getLast? = some 33:=by rw[hL0];simpa using hd
       clear hL0 hd hm
       obtain ⟨pa,hpa⟩:∃ x,x=parseT ((l.drop 0).take (k - 0)):=⟨_,rfl⟩
       have ca:=fun w=>c_ParseTermX l 0 k w
       rw[←hpa] at ca
       replace ca:=Lib.hid ca
       obtain ⟨pb,hpb⟩:∃ x,x=parseT ((l.drop (k+1)).take (l.length - (k+1))):=⟨_,rfl⟩
       have cb:=fun w=>c_ParseTermX l (k+1) l.length w
       rw[←hpb] at cb
       replace cb:=Lib.hid cb
       have hE:Hid (parseF l=pairP true pa pb):=Lib.hid (by
        rw[HP.out,hpa,hpb,List.drop_zero,Nat.sub_zero,List.take_of_length_le (l:=l.drop (k+1)) (by simp)]
        rw[if_neg hlast];rfl)
       clear hpa hpb HP
       cases pa with
       | none=>
        have hR:Hid (parseF l=none):=Lib.hid hE.out
        clear hE
        go_wp2_with fail
        refine (ca.out _).mono ?_
        rintro e w2 ⟨rfl,rfl⟩
        go_wp2_with fail
        refine (cb.out _).mono ?_
        rintro e w2 ⟨rfl,rfl⟩
        go_wp2_with fail
        refine bodyPost_ret (v:=.tuple #[.agg #[.bool false,.int .i64 0,.int .i64 0],.bool false]) (by simp[results,Tryd.results65,go_sem]) rfl ⟨by rw[hR.out];rfl,bel⟩
       | some a=>
        cases pb with
        | none=>
         have hR:Hid (parseF l=none):=Lib.hid hE.out
         clear hE
         go_wp2_with fail
         refine (ca.out _).mono ?_
         rintro e w2 ⟨rfl,rfl⟩
         go_wp2_with fail
         refine (cb.out _).mono ?_
         rintro e w2 ⟨rfl,rfl⟩
         go_wp2_with fail
         refine bodyPost_ret (v:=.tuple #[.agg #[.bool false,.int .i64 0,.int .i64 0],.bool false]) (by simp[results,Tryd.results65,go_sem]) rfl ⟨by rw[hR.out];rfl,bel⟩
        | some b=>
         have hR:Hid (parseF l=some ⟨true,(a:Int),(b:Int)⟩):=Lib.hid hE.out
         clear hE
         go_wp2_with fail
         refine (ca.out _).mono ?_
         rintro e w2 ⟨rfl,rfl⟩
         go_wp2_with fail
         refine (cb.out _).mono ?_
         rintro e w2 ⟨rfl,rfl⟩
         go_wp2_with fail
         refine bodyPost_ret (v:=.tuple #[.agg #[.bool true,.int .i64 a,.int .i64 b],.bool true]) (by simp[results,Tryd.results65,go_sem]) rfl ⟨by rw[hR.out];rfl,bel⟩
     ·have hk0i:¬(0:Int)<(k:Int):=by omega
      have hlast:¬(l.take k).getLast? = some 33:=by
       obtain rfl:k=0:=by omega
       simp
      clear hk0
      obtain ⟨pa,hpa⟩:∃ x,x=parseT ((l.drop 0).take (k - 0)):=⟨_,rfl⟩
      have ca:=fun w=>c_ParseTermX l 0 k w
      rw[←hpa] at ca
      replace ca:=Lib.hid ca
      obtain ⟨pb,hpb⟩:∃ x,x=parseT ((l.drop (k+1)).take (l.length - (k+1))):=⟨_,rfl⟩
      have cb:=fun w=>c_ParseTermX l (k+1) l.length w
      rw[←hpb] at cb
      replace cb:=Lib.hid cb
      have hE:Hid (parseF l=pairP true pa pb):=Lib.hid (by
       rw[HP.out,hpa,hpb,List.drop_zero,Nat.sub_zero,List.take_of_length_le (l:=l.drop (k+1)) (by simp)]
       rw[if_neg hlast];rfl)
      clear hpa hpb HP
      cases pa with
      | none=>
       have hR:Hid (parseF l=none):=Lib.hid hE.out
       clear hE
       go_wp2_with fail
       refine (ca.out _).mono ?_
       rintro e w2 ⟨rfl,rfl⟩
       go_wp2_with fail
       refine (cb.out _).mono ?_
       rintro e w2 ⟨rfl,rfl⟩
       go_wp2_with fail
       refine bodyPost_ret (v:=.tuple #[.agg #[.bool false,.int .i64 0,.int .i64 0],.bool false]) (by simp[results,Tryd.results65,go_sem]) rfl ⟨by rw[hR.out];rfl,bel⟩
      | some a=>
       cases pb with
       | none=>
        have hR:Hid (parseF l=none):=Lib.hid hE.out
        clear hE
        go_wp2_with fail
        refine (ca.out _).mono ?_
        rintro e w2 ⟨rfl,rfl⟩
        go_wp2_with fail
        refine (cb.out _).mono ?_
        rintro e w2 ⟨rfl,rfl⟩
        go_wp2_with fail
        refine bodyPost_ret (v:=.tuple #[.agg #[.bool false,.int .i64 0,.int .i64 0],.bool false]) (by simp[results,Tryd.results65,go_sem]) rfl ⟨by rw[hR.out];rfl,bel⟩
       | some b=>
        have hR:Hid (parseF l=some ⟨true,(a:Int),(b:Int)⟩):=Lib.hid hE.out
        clear hE
        go_wp2_with fail
        refine (ca.out _).mono ?_
        rintro e w2 ⟨rfl,rfl⟩
        go_wp2_with fail
        refine (cb.out _).mono ?_
        rintro e w2 ⟨rfl,rfl⟩
        go_wp2_with fail
        refine bodyPost_ret (v:=.tuple #[.agg #[.bool true,.int .i64 a,.int .i64 b],.bool true]) (by simp[results,Tryd.results65,go_sem]) rfl ⟨by rw[hR.out];rfl,bel⟩
    ·obtain ⟨c,hcc⟩:∃ c,c=l[k]:=⟨_,rfl⟩
     rw[←hcc] at hx hc
     have hb:((c.toNat:Int) == 61)=false:=by rw[show (61:Int)=((61:Nat):Int) from rfl,u8_eq c 61 (by decide)];simpa using hc
     have HM:Hid (∀ j (hj:j<k+1) (hj2:j<l.length),l[j]≠61):=Lib.hid fun j hj hj2=>by
      by_cases e:j=k
      ·subst e;rw[←hcc];exact hc
      ·exact HN.out j (by omega) hj2
     clear hcc hc
     go_wp2_with fail
     go_round
     case rel=>exact ⟨k+1,by omega,by go_num,HM,by first|rfl|trivial⟩
     case measure=>simp[intOf];omega
   ·obtain rfl:k=l.length:=by omega
    have HP:=Lib.hid (parseF_no fun j hj=>HN.out j hj hj)
    go_wp2_with fail
    refine bodyPost_ret (v:=.tuple #[.agg #[.bool false,.int .i64 0,.int .i64 0],.bool false]) (by simp[results,Tryd.results65,go_sem]) rfl ⟨by rw[HP.out];rfl,bel⟩
 ·have hli:¬(l.length:Int)≤9:=by omega
  have hl0:(0:Int)<(l.length:Int):=by omega
  have HP:=Lib.hid (show parseF l=none by unfold parseF;rw[if_pos (by omega)])
  clear hl
  go_enter Tryd.func65,Tryd.ntmps65
  go_wp2_with fail
  go_loopw [4] (fun i wr=>i=.int .i64 0∧wr=w.alloc (.cells #[.bool false,.int .i64 0,.int .i64 0] tF)) (fun _ _=>0)
  case atStart=>exact ⟨rfl,rfl⟩
  case round=>
   obtain ⟨rfl,rfl⟩:=hrel
   go_wp2_with fail
   refine bodyPost_ret (v:=.tuple #[.agg #[.bool false,.int .i64 0,.int .i64 0],.bool false]) (by simp[results,Tryd.results65,go_sem]) rfl ⟨by rw[HP.out];rfl,bel⟩
end Go.Proofs.YtjaohekkmlkinaaDoor
