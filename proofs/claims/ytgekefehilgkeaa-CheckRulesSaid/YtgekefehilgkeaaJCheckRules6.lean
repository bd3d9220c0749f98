/- The document's own printer: each text. ExprBack: the walk. The document's own printer: any nodes. Nodes in memory of their own; what chapter 10 goes through. Rows that grow: what the copies need. Lists copied and joined; whether a configuration is more than is gone through. Copies in memory of their own: matchers, nodes. Copies in memory of their own: rules, configurations. Configurations with a thing twice, without one, turned about; the windows of right nodes. The document's own answer: whether a rule, a mute may be. Whether a rule is more than is gone through: what is known of one that isn't. The document's own answer of chapter 11, rule by rule, mute by mute; CheckRules. CheckRules: the walk. -/
import Derived.Test.YtgekefehilgkeaaJCheckRules5
import Derived.Test.YtgekefehilgkeaaJCheckRules4
import Derived.Test.YtgekefehilgkeaaJCheckRules3
namespace Go.Vi
open Go Go.Proofs Go.Proofs.Try
section
variable {H : AHeap} {v : Value} {ns : List Nod} {k : Value → AHeap → Prop} {bb : Nat}
set_option maxHeartbeats 4000000 in
set_option maxRecDepth 20000 in
theorem txt_loop (hn : NodesAt H v ns) (h1 : 1 ≤ ns.length) (h31 : ns.length ≤ 31) (hok : PrOk ns) (hfit : ∀ (j : Nat) n,ns[j]? = some n → fitN j n) (hbb : H.length ≤ bb) (hk : ∀ K,Pre H K → k (str (refP ns)) K) :
  ∀ (d i : Nat) (M : AHeap) (s1 s2 s3 s4 s7 s8 s9 s10 s11 s12 s13 s14 s15 s16 s17 s18 s19 s20 s21 s22 s23 s24 s25 s26 s27 s28 s29 s30 s31 s32 s33 s34 s35 s36 s37 s38 s39 s40 s41 s42 s43 s44 s45 s46 s47 s48 s49 s50 s51 s52 s53 s54 s55 s56 s57 s58 s59 s60 s61 s62 s63 s64 s65 s66 s67 s68 s69 s70 s71 s72 s73 s74 s75 s76 s77 s78 s79 s80 s81 s82 s83 s84 s85 s86 s87 s88 s89 s90 s91 s92 s93 s94 s95 s96 s97 s98 s99 s100 s101 s102 s103 s104 s105 s106 s107 s108 s109 s110 s111 s112 s113 s114 s115 s116 s117 s118 s119 s120 s121 s122 s123 s124 s125 s126 s127 s128 s129 s130 s131 s132 s133 s134 s135 s136 s137 s138 s139 s140 s141 s142 s143 s144 s145 s146 s147 s148 s149 s150 s151 s152 s153 s154 s155 s156 s157 s158 s159 s160 s161 s162 s163 s164 s165 s166 s167 s168 s169 s170 s171 s172 s173 s174 s175 s176 s177 s178 s179 s180 s181 s182 s183 s184 s185 s186 s187 s188 s189 s190 s191 s192 s193 s194 s195 s196 s197 s198 s199 s200 s201 s202 s203 s204 s205 s206 s207 s208 s209 s210 s211 s212 s213 s214 s215 s216 s217 s218 s219 s220 s221 s222 s223 s224 s225 s226 s227 s228 s229 s230 s231 s232 s233 s234 s235 s236 s237 s238 s239 s240 s241 s242 s243 s244 s245 s246 s247 s248 s249 s250 s251 s252 s253 s254 s255 : Value), d + i = ns.length → Pre H M → M[bb]? = some (.cells ((txl ns i).map str) 9) → (∀ j, j < i → (txtR ns (j + 1) j 0).length ≤ 20000) →
    L54x1 (d + 1) k [v,s1,s2,s3,s4,.slice (some ⟨bb,0,some ns.length⟩) ns.length ns.length,i64 i,s7,s8,s9,s10,s11,s12,s13,s14,s15,s16,s17,s18,s19,s20,s21,s22,s23,s24,s25,s26,s27,s28,s29,s30,s31,s32,s33,s34,s35,s36,s37,s38,s39,s40,s41,s42,s43,s44,s45,s46,s47,s48,s49,s50,s51,s52,s53,s54,s55,s56,s57,s58,s59,s60,s61,s62,s63,s64,s65,s66,s67,s68,s69,s70,s71,s72,s73,s74,s75,s76,s77,s78,s79,s80,s81,s82,s83,s84,s85,s86,s87,s88,s89,s90,s91,s92,s93,s94,s95,s96,s97,s98,s99,s100,s101,s102,s103,s104,s105,s106,s107,s108,s109,s110,s111,s112,s113,s114,s115,s116,s117,s118,s119,s120,s121,s122,s123,s124,s125,s126,s127,s128,s129,s130,s131,s132,s133,s134,s135,s136,s137,s138,s139,s140,s141,s142,s143,s144,s145,s146,s147,s148,s149,s150,s151,s152,s153,s154,s155,s156,s157,s158,s159,s160,s161,s162,s163,s164,s165,s166,s167,s168,s169,s170,s171,s172,s173,s174,s175,s176,s177,s178,s179,s180,s181,s182,s183,s184,s185,s186,s187,s188,s189,s190,s191,s192,s193,s194,s195,s196,s197,s198,s199,s200,s201,s202,s203,s204,s205,s206,s207,s208,s209,s210,s211,s212,s213,s214,s215,s216,s217,s218,s219,s220,s221,s222,s223,s224,s225,s226,s227,s228,s229,s230,s231,s232,s233,s234,s235,s236,s237,s238,s239,s240,s241,s242,s243,s244,s245,s246,s247,s248,s249,s250,s251,s252,s253,s254,s255] M := by
 intro d
 induction d with
 | zero =>
   intro i M s1 s2 s3 s4 s7 s8 s9 s10 s11 s12 s13 s14 s15 s16 s17 s18 s19 s20 s21 s22 s23 s24 s25 s26 s27 s28 s29 s30 s31 s32 s33 s34 s35 s36 s37 s38 s39 s40 s41 s42 s43 s44 s45 s46 s47 s48 s49 s50 s51 s52 s53 s54 s55 s56 s57 s58 s59 s60 s61 s62 s63 s64 s65 s66 s67 s68 s69 s70 s71 s72 s73 s74 s75 s76 s77 s78 s79 s80 s81 s82 s83 s84 s85 s86 s87 s88 s89 s90 s91 s92 s93 s94 s95 s96 s97 s98 s99 s100 s101 s102 s103 s104 s105 s106 s107 s108 s109 s110 s111 s112 s113 s114 s115 s116 s117 s118 s119 s120 s121 s122 s123 s124 s125 s126 s127 s128 s129 s130 s131 s132 s133 s134 s135 s136 s137 s138 s139 s140 s141 s142 s143 s144 s145 s146 s147 s148 s149 s150 s151 s152 s153 s154 s155 s156 s157 s158 s159 s160 s161 s162 s163 s164 s165 s166 s167 s168 s169 s170 s171 s172 s173 s174 s175 s176 s177 s178 s179 s180 s181 s182 s183 s184 s185 s186 s187 s188 s189 s190 s191 s192 s193 s194 s195 s196 s197 s198 s199 s200 s201 s202 s203 s204 s205 s206 s207 s208 s209 s210 s211 s212 s213 s214 s215 s216 s217 s218 s219 s220 s221 s222 s223 s224 s225 s226 s227 s228 s229 s230 s231 s232 s233 s234 s235 s236 s237 s238 s239 s240 s241 s242 s243 s244 s245 s246 s247 s248 s249 s250 s251 s252 s253 s254 s255 hi hp hb hs
   obtain rfl : i = ns.length := by omega
   exact txt_end hn h1 h31 hfit hk 0 M _ _ _ _ _ _ _ _ _ _ _ _ _ _ _ _ _ _ _ _ _ _ _ _ _ _ _ _ _ _ _ _ _ _ _ _ _ _ _ _ _ _ _ _ _ _ _ _ _ _ _ _ _ _ _ _ _ _ _ _ _ _ _ _ _ _ _ _ _ _ _ _ _ _ _ _ _ _ _ _ _ _ _ _ _ _ _ _ _ _ _ _ _ _ _ _ _ _ _ _ _ _ _ _ _ _ _ _ _ _ _ _ _ _ _ _ _ _ _ _ _ _ _ _ _ _ _ _ _ _ _ _ _ _ _ _ _ _ _ _ _ _ _ _ _ _ _ _ _ _ _ _ _ _ _ _ _ _ _ _ _ _ _ _ _ _ _ _ _ _ _ _ _ _ _ _ _ _ _ _ _ _ _ _ _ _ _ _ _ _ _ _ _ _ _ _ _ _ _ _ _ _ _ _ _ _ _ _ _ _ _ _ _ _ _ _ _ _ _ _ _ _ _ _ _ _ _ _ _ _ _ _ _ _ _ _ _ _ _ _ _ _ _ _ _ _ _ _ _ _ _ _ _ hp hb hs
 | succ d ih =>
   intro i M s1 s2 s3 s4 s7 s8 s9 s10 s11 s12 s13 s14 s15 s16 s17 s18 s19 s20 s21 s22 s23 s24 s25 s26 s27 s28 s29 s30 s31 s32 s33 s34 s35 s36 s37 s38 s39 s40 s41 s42 s43 s44 s45 s46 s47 s48 s49 s50 s51 s52 s53 s54 s55 s56 s57 s58 s59 s60 s61 s62 s63 s64 s65 s66 s67 s68 s69 s70 s71 s72 s73 s74 s75 s76 s77 s78 s79 s80 s81 s82 s83 s84 s85 s86 s87 s88 s89 s90 s91 s92 s93 s94 s95 s96 s97 s98 s99 s100 s101 s102 s103 s104 s105 s106 s107 s108 s109 s110 s111 s112 s113 s114 s115 s116 s117 s118 s119 s120 s121 s122 s123 s124 s125 s126 s127 s128 s129 s130 s131 s132 s133 s134 s135 s136 s137 s138 s139 s140 s141 s142 s143 s144 s145 s146 s147 s148 s149 s150 s151 s152 s153 s154 s155 s156 s157 s158 s159 s160 s161 s162 s163 s164 s165 s166 s167 s168 s169 s170 s171 s172 s173 s174 s175 s176 s177 s178 s179 s180 s181 s182 s183 s184 s185 s186 s187 s188 s189 s190 s191 s192 s193 s194 s195 s196 s197 s198 s199 s200 s201 s202 s203 s204 s205 s206 s207 s208 s209 s210 s211 s212 s213 s214 s215 s216 s217 s218 s219 s220 s221 s222 s223 s224 s225 s226 s227 s228 s229 s230 s231 s232 s233 s234 s235 s236 s237 s238 s239 s240 s241 s242 s243 s244 s245 s246 s247 s248 s249 s250 s251 s252 s253 s254 s255 hi hp hb hs
   have hlt : i < ns.length := by omega
   obtain ⟨n,hnd⟩ : ∃ n,ns[i]? = some n := ⟨_,List.getElem?_eq_getElem hlt⟩
   have hmem : n ∈ ns := List.mem_of_getElem? hnd
   obtain ⟨f1,f2,f3⟩ := hfit i n hnd
   have hlen := fun J => (hn.pre hp).len J
   obtain ⟨cl,ha,hcl,hc⟩ := hn.pre hp
   obtain ⟨sv,hsv,hm,hml⟩ := hc _ _ hnd
   obtain ⟨p,hp1,hp2⟩ := ha.load (P := prog) (T := 22) (te := 50) (i := i) (e := n.cells sv) (by simp) (by simp) (by simp) hsv
   have hone := hm.one
   have hcM : hcells (M ++ [.cells (n.cells sv) 50]) M.length = some (n.cells sv) := by simp
   have hpM : Pre M (M ++ [.cells (n.cells sv) 50]) := .app _ _
   -- what follows once the text is laid
   have fin : ∀ (M2 : AHeap) (s1 s2 s3 s4 s7 s8 s9 s10 s11 s12 s13 s14 s15 s16 s17 s18 s19 s20 s21 s22 s23 s24 s25 s26 s27 s28 s29 s30 s31 s32 s33 s34 s35 s36 s37 s38 s39 s40 s41 s42 s43 s44 s45 s46 s47 s48 s49 s50 s51 s52 s53 s54 s55 s56 s57 s58 s59 s60 s61 s62 s63 s64 s65 s66 s67 s68 s69 s70 s71 s72 s73 s74 s75 s76 s77 s78 s79 s80 s81 s82 s83 s84 s85 s86 s87 s88 s89 s90 s91 s92 s93 s94 s95 s96 s97 s98 s99 s100 s101 s102 s103 s104 s105 s106 s107 s108 s109 s110 s111 s112 s113 s114 s115 s116 s117 s118 s119 s120 s121 s122 s123 s124 s125 s126 s127 s128 s129 s130 s131 s132 s133 s134 s135 s136 s137 s138 s139 s140 s141 s142 s143 s144 s145 s146 s147 s148 s149 s150 s151 s152 s153 s154 s155 s156 s157 s158 s159 s160 s161 s162 s163 s164 s165 s166 s167 s168 s169 s170 s171 s172 s173 s174 s175 s176 s177 s178 s179 s180 s181 s182 s183 s184 s185 s186 s187 s188 s189 s190 s191 s192 s193 s194 s195 s196 s197 s198 s199 s200 s201 s202 s203 s204 s205 s206 s207 s208 s209 s210 s211 s212 s213 s214 s215 s216 s217 s218 s219 s220 s221 s222 s223 s224 s225 s226 s227 s228 s229 s230 s231 s232 s233 s234 s235 s236 s237 s238 s239 s240 s241 s242 s243 s244 s245 s246 s247 s248 s249 s250 s251 s252 s253 s254 s255 : Value),Pre H M2 → M2[bb]? = some (.cells ((txl ns (i + 1)).map str) 9) → S54x0 (d + 1) k [v,s1,s2,s3,s4,.slice (some ⟨bb,0,some ns.length⟩) ns.length ns.length,i64 i,s7,s8,s9,s10,s11,s12,s13,s14,s15,s16,s17,s18,s19,s20,s21,s22,s23,s24,s25,s26,s27,s28,s29,s30,s31,s32,s33,s34,s35,s36,s37,s38,s39,s40,s41,s42,s43,s44,s45,s46,s47,s48,s49,s50,s51,s52,s53,s54,s55,s56,s57,s58,s59,s60,s61,s62,s63,s64,s65,s66,s67,s68,s69,s70,s71,s72,s73,s74,s75,s76,s77,s78,s79,s80,s81,s82,s83,s84,s85,s86,s87,s88,s89,s90,s91,s92,s93,s94,s95,s96,s97,s98,s99,s100,s101,s102,s103,s104,s105,s106,s107,s108,s109,s110,s111,s112,s113,s114,s115,s116,s117,s118,s119,s120,s121,s122,s123,s124,s125,s126,s127,s128,s129,s130,s131,s132,s133,s134,s135,s136,s137,s138,s139,s140,s141,s142,s143,s144,s145,s146,s147,s148,s149,s150,s151,s152,s153,s154,s155,s156,s157,s158,s159,s160,s161,s162,s163,s164,s165,s166,s167,s168,s169,s170,s171,s172,s173,s174,s175,s176,s177,s178,s179,s180,s181,s182,s183,s184,s185,s186,s187,s188,s189,s190,s191,s192,s193,s194,s195,s196,s197,s198,s199,s200,s201,s202,s203,s204,s205,s206,s207,s208,s209,s210,s211,s212,s213,s214,s215,s216,s217,s218,s219,s220,s221,s222,s223,s224,s225,s226,s227,s228,s229,s230,s231,s232,s233,s234,s235,s236,s237,s238,s239,s240,s241,s242,s243,s244,s245,s246,s247,s248,s249,s250,s251,s252,s253,s254,s255] M2 := by
    intro M2 s1 s2 s3 s4 s7 s8 s9 s10 s11 s12 s13 s14 s15 s16 s17 s18 s19 s20 s21 s22 s23 s24 s25 s26 s27 s28 s29 s30 s31 s32 s33 s34 s35 s36 s37 s38 s39 s40 s41 s42 s43 s44 s45 s46 s47 s48 s49 s50 s51 s52 s53 s54 s55 s56 s57 s58 s59 s60 s61 s62 s63 s64 s65 s66 s67 s68 s69 s70 s71 s72 s73 s74 s75 s76 s77 s78 s79 s80 s81 s82 s83 s84 s85 s86 s87 s88 s89 s90 s91 s92 s93 s94 s95 s96 s97 s98 s99 s100 s101 s102 s103 s104 s105 s106 s107 s108 s109 s110 s111 s112 s113 s114 s115 s116 s117 s118 s119 s120 s121 s122 s123 s124 s125 s126 s127 s128 s129 s130 s131 s132 s133 s134 s135 s136 s137 s138 s139 s140 s141 s142 s143 s144 s145 s146 s147 s148 s149 s150 s151 s152 s153 s154 s155 s156 s157 s158 s159 s160 s161 s162 s163 s164 s165 s166 s167 s168 s169 s170 s171 s172 s173 s174 s175 s176 s177 s178 s179 s180 s181 s182 s183 s184 s185 s186 s187 s188 s189 s190 s191 s192 s193 s194 s195 s196 s197 s198 s199 s200 s201 s202 s203 s204 s205 s206 s207 s208 s209 s210 s211 s212 s213 s214 s215 s216 s217 s218 s219 s220 s221 s222 s223 s224 s225 s226 s227 s228 s229 s230 s231 s232 s233 s234 s235 s236 s237 s238 s239 s240 s241 s242 s243 s244 s245 s246 s247 s248 s249 s250 s251 s252 s253 s254 s255 hp2 hb2
    have hc2 : hcells M2 bb = some ((txl ns (i + 1)).map str) := by simp [hcells,hb2]
    obtain ⟨q,q1,q2⟩ := row_str (k := .i64) hc2 (txl_get (ns := ns) hlt (Nat.lt_succ_self i))
    rw [txl_len] at q1
    rw [S54x0q]
    have w1 : IntKind.i64.wrap ((i : Int) + 1) = ((i + 1 : Nat) : Int) := by rw [wrap_i64 (by omega) (by omega)]; omega
    by_cases hl : 20000 < (txtR ns (i + 1) i 0).length
    · have hlI : (20000 : Int) < (txtR ns (i + 1) i 0).length := by omega
      have := hk M2 hp2
      rw [refP_long h1 h31 hfit hlt hl] at this
      simp [q1,q2,hlI]
      exact this
    · have hlI : ¬ (20000 : Int) < (txtR ns (i + 1) i 0).length := by omega
      simp [q1,q2,hlI,w1]
      rw [show ((i : Int) + 1) = ((i + 1 : Nat) : Int) by omega]
      exact ih (i + 1) M2 _ _ _ _ _ _ _ _ _ _ _ _ _ _ _ _ _ _ _ _ _ _ _ _ _ _ _ _ _ _ _ _ _ _ _ _ _ _ _ _ _ _ _ _ _ _ _ _ _ _ _ _ _ _ _ _ _ _ _ _ _ _ _ _ _ _ _ _ _ _ _ _ _ _ _ _ _ _ _ _ _ _ _ _ _ _ _ _ _ _ _ _ _ _ _ _ _ _ _ _ _ _ _ _ _ _ _ _ _ _ _ _ _ _ _ _ _ _ _ _ _ _ _ _ _ _ _ _ _ _ _ _ _ _ _ _ _ _ _ _ _ _ _ _ _ _ _ _ _ _ _ _ _ _ _ _ _ _ _ _ _ _ _ _ _ _ _ _ _ _ _ _ _ _ _ _ _ _ _ _ _ _ _ _ _ _ _ _ _ _ _ _ _ _ _ _ _ _ _ _ _ _ _ _ _ _ _ _ _ _ _ _ _ _ _ _ _ _ _ _ _ _ _ _ _ _ _ _ _ _ _ _ _ _ _ _ _ _ _ _ _ _ _ _ _ _ _ _ _ _ _ _ _ (by omega) hp2 hb2 (fun j hj => by
       by_cases e : j = i
       · subst e; omega
       · exact hs j (by omega))
   -- the text is laid
   have put : ∀ (N : AHeap) (t : List UInt8),Pre H N → N[bb]? = some (.cells ((txl ns i).map str) 9) → t = txtR ns (i + 1) i 0 →
     ∃ p N2,aIndexAddr prog N 23 (.slice (some ⟨bb,0,some ns.length⟩) ns.length ns.length) (i64 i) = some p ∧ aStore prog N 9 p (str t) = some N2 ∧ Pre H N2 ∧ N2[bb]? = some (.cells ((txl ns (i + 1)).map str) 9) := by
    intro N t hpN hbN ht
    obtain ⟨q,q1,q2⟩ := row_put (s := t) hbN (show i < (txl ns i).length by rw [txl_len]; exact hlt)
    rw [txl_len] at q1
    refine ⟨q,_,q1,q2,hpN.set (by omega),?_⟩
    rw [List.getElem?_set_self (List.getElem?_eq_some_iff.1 hbN).1,ht,txl_set]
   rw [L54x1q]
   generalize hM : M ++ [AObj.cells (n.cells sv) 50] = M1 at hcM hpM
   have hp1' := hp.trans hpM
   have hb1 : M1[bb]? = some (.cells ((txl ns i).map str) 9) := hpM.get hb
   have hc1 : hcells M1 bb = some ((txl ns i).map str) := by simp [hcells,hb1]
   have hm1 := hm.pre hpM
   have hn1 := hn.pre hp1'
   simp only [Nod.cells] at hcM hM
   have hlM : Vi.hlen M1 M.length = some 8 := by rw [hcells_len hcM]; rfl
   simp [hlen,hlt,hp1,hp2,Nod.cells,hone,hM,hcM,hlM]
   have kind_at : ∀ (l : Nat) (m : Nod),ns[l]? = some m → ∃ q q0,aIndexAddr prog M1 22 v (i64 l) = some q ∧ aFieldAddr prog M1 50 q 0 = some q0 ∧ aLoad prog M1 5 q0 = some (byt m.kind) := by
    intro l m hl
    obtain ⟨cl,ha,hcl,hc⟩ := hn1
    obtain ⟨sv,hsv,_,_⟩ := hc _ _ hl
    exact ha.field (P := prog) (T := 22) (te := 50) (ft := 5) (f := 0) (d := 0) (x := byt m.kind) (by simp) (by simp) (by simp) (by simp) (by simp) hsv rfl
   have sideK : ∀ (l : Nat) (m : Nod) (c : Bool) (least : Int),l < i → ns[l]? = some m → (c = true ↔ strongI m.kind < least) →
     ACalls prog 64 [v,.slice (some ⟨bb,0,some ns.length⟩) ns.length ns.length,i64 l,.bool c] M1 (str (txtR ns i l least)) M1 ∧ (txtR ns i l least).length ≤ 20002 := by
    intro l m c least hl hm hcl
    have hts := hs l hl
    have rs := r_side (M := M1) (v := v) c hc1 (txl_get (ns := ns) (by omega) hl) (by omega)
    rw [txl_len] at rs
    have e := side_txt hfit hl hm least
    have e2 : (if c = true then [40] ++ txtR ns (l + 1) l 0 ++ [41] else txtR ns (l + 1) l 0) = txtR ns i l least := by
     rw [e]
     by_cases hh : strongI m.kind < least
     · rw [if_pos hh,if_pos (hcl.2 hh)]
     · rw [if_neg hh,if_neg (fun q => hh (hcl.1 q))]
    rw [e2] at rs
    refine ⟨rs,?_⟩
    rw [e]
    split
    · simp; omega
    · omega
   have node_of : ∀ l,l < i → ∃ m,ns[l]? = some m ∧ (m.kind = 0 ∨ m.kind = 1 ∨ m.kind = 2 ∨ m.kind = 3) := by
    intro l hl
    obtain ⟨m,hm⟩ : ∃ m,ns[l]? = some m := ⟨_,List.getElem?_eq_getElem (by omega)⟩
    exact ⟨m,hm,kind_of3 (hfit l m hm).1⟩
   have kq : ∀ (u : UInt8) (c : UInt8),(((u.toNat : Int) == c.toNat) = true ↔ u = c) := by
    intro u c
    exact ⟨fun h => kind_of h,fun h => by rw [h]; simp⟩
   have cat := fun (a b : List UInt8) (h : a.length + b.length < 2 ^ 63) x y => aBin_str (P := prog) (H := M1) (T := 9) (x := x) (y := y) (a := a) (b := b) h
   rcases kind_of3 f1 with k0 | k1 | k2 | k3
   · obtain ⟨g1,g2⟩ := f2 k0
     have e0 : ((n.kind.toNat : Int) == 0) = true := by rw [k0]; rfl
     have htx : txtR ns (i + 1) i 0 = leafR n := by
      rw [txtR,hnd]
      simp only [k0,if_true]
      rw [if_neg (by decide)]
     have hwin := hok.win n hmem
     have hsl := selS_len (hok.tame n hmem)
     have hsl2 := hok.sel n hmem
     have l1 : (aggs.getD n.agg.toNat []).length ≤ 5 := getD_len (by decide)
     have l2 : (cmps.getD n.cmp.toNat []).length ≤ 2 := getD_len (by decide)
     have l3 := fixS_len n.value
     have l4 := decR_len hwin
     have r1 := r_aggregate M1 (i := n.agg.toNat) (by omega)
     have r2 := r_sel hm1 hsl2 (hok.tame n hmem)
     have r3 := r_decimal M1 hwin
     have r4 := r_compare M1 (i := n.cmp.toNat) (by omega)
     have r5 := r_fix M1 n.value
     unfold leafR at htx
     generalize aggs.getD n.agg.toNat [] = A at htx l1 r1
     generalize cmps.getD n.cmp.toNat [] = C at htx l2 r4
     generalize fixS n.value = V at htx l3 r5
     generalize decR n.window = W at htx l4 r3
     generalize selS n.sel = S at htx hsl r2
     have a1 := cat A [40] (by simp; omega)
     have a2 := cat (A ++ [40]) S (by simp; omega)
     have a3 := cat (A ++ [40] ++ S) [91] (by simp; omega)
     have a4 := cat (A ++ [40] ++ S ++ [91]) W (by simp; omega)
     have a5 := cat (A ++ [40] ++ S ++ [91] ++ W) [93,41,32] (by simp; omega)
     have a6 := cat (A ++ [40] ++ S ++ [91] ++ W ++ [93,41,32]) C (by simp; omega)
     have a7 := cat (A ++ [40] ++ S ++ [91] ++ W ++ [93,41,32] ++ C) [32] (by simp; omega)
     have a8 := cat (A ++ [40] ++ S ++ [91] ++ W ++ [93,41,32] ++ C ++ [32]) V (by simp; omega)
     obtain ⟨q,N2,b1,b2,b3,b4⟩ := put M1 _ hp1' hb1 htx.symm
     have e0' : (n.kind.toNat : Int) = 0 := by rw [k0]; rfl
     simp [e0',hcM,hlM]
     refine bndD_same r1 ?_
     dsimp only
     refine bnd_of (a1 _ _) ?_
     simp [hcM,hlM]
     refine bndD_same r2 ?_
     dsimp only
     refine bnd_of (a2 _ _) ?_
     dsimp only
     refine bnd_of (a3 _ _) ?_
     simp [hcM,hlM]
     refine bndD_same r3 ?_
     dsimp only
     refine bnd_of (a4 _ _) ?_
     dsimp only
     refine bnd_of (a5 _ _) ?_
     simp [hcM,hlM]
     refine bndD_same r4 ?_
     dsimp only
     refine bnd_of (a6 _ _) ?_
     dsimp only
     refine bnd_of (a7 _ _) ?_
     simp [hcM,hlM]
     refine bndD_same r5 ?_
     dsimp only
     refine bnd_of (a8 _ _) ?_
     dsimp only
     refine bnd_of b1 ?_
     dsimp only
     refine bndD_of ⟨rfl,b2⟩ (.inl rfl) ?_
     exact fin N2 _ _ _ _ _ _ _ _ _ _ _ _ _ _ _ _ _ _ _ _ _ _ _ _ _ _ _ _ _ _ _ _ _ _ _ _ _ _ _ _ _ _ _ _ _ _ _ _ _ _ _ _ _ _ _ _ _ _ _ _ _ _ _ _ _ _ _ _ _ _ _ _ _ _ _ _ _ _ _ _ _ _ _ _ _ _ _ _ _ _ _ _ _ _ _ _ _ _ _ _ _ _ _ _ _ _ _ _ _ _ _ _ _ _ _ _ _ _ _ _ _ _ _ _ _ _ _ _ _ _ _ _ _ _ _ _ _ _ _ _ _ _ _ _ _ _ _ _ _ _ _ _ _ _ _ _ _ _ _ _ _ _ _ _ _ _ _ _ _ _ _ _ _ _ _ _ _ _ _ _ _ _ _ _ _ _ _ _ _ _ _ _ _ _ _ _ _ _ _ _ _ _ _ _ _ _ _ _ _ _ _ _ _ _ _ _ _ _ _ _ _ _ _ _ _ _ _ _ _ _ _ _ _ _ _ _ _ _ _ _ _ _ _ _ _ _ _ _ _ _ _ _ _ b3 b4
   · obtain ⟨g1,g2,g3,g4⟩ := f3 (by rw [k1]; decide)
     have g5 := g4 (by rw [k1]; decide)
     obtain ⟨L,hL⟩ : ∃ L : Nat,n.left = L := ⟨n.left.toNat,by omega⟩
     obtain ⟨R,hR⟩ : ∃ R : Nat,n.right = R := ⟨n.right.toNat,by omega⟩
     obtain ⟨ml,l1,l2⟩ := node_of L (by omega)
     obtain ⟨mr,r1,r2⟩ := node_of R (by omega)
     obtain ⟨q,q0,a1,a2,a3⟩ := kind_at L ml l1
     obtain ⟨x,x0,b1,b2,b3⟩ := kind_at R mr r1
     have htx : txtR ns (i + 1) i 0 = txtR ns i L 1 ++ [32,97,110,100,32] ++ txtR ns i R 2 := by
      have e0 : ¬ ((1 : UInt8) = 0) := by decide
      have e3 : ¬ ((1 : UInt8) = 3) := by decide
      have es : ¬ strongI 1 < 0 := by decide
      rw [txtR,hnd]
      simp only [k1,hL,hR,e0,e3,es,if_false,if_true,Int.toNat_natCast]
     obtain ⟨c1,c2⟩ := sideK L ml ((ml.kind.toNat : Int) == 2) 1 (by omega) l1 (by rw [(strong_of l2).1]; exact kq ml.kind 2)
     have h2' : ∀ c : Bool,(c = true ↔ mr.kind = 1 ∨ mr.kind = 2) → _ := fun c hc => sideK R mr c 2 (by omega) r1 (by rw [(strong_of r2).2]; exact hc)
     obtain ⟨_,c3⟩ := h2' (decide (mr.kind = 1 ∨ mr.kind = 2)) (by simp)
     have d1 := cat (txtR ns i L 1) [32,97,110,100,32] (by simp; omega)
     have d2 := cat (txtR ns i L 1 ++ [32,97,110,100,32]) (txtR ns i R 2) (by simp; omega)
     obtain ⟨z,N2,z1,z2,z3,z4⟩ := put M1 _ hp1' hb1 htx.symm
     have e1 : (n.kind.toNat : Int) = 1 := by rw [k1]; rfl
     simp only [hL,hR] at hcM
     simp [e1,hcM,hlM,a1,a2,a3]
     refine bndD_same c1 ?_
     dsimp only
     refine bnd_of (d1 _ _) ?_
     cases hq1 : ((mr.kind.toNat : Int) == 1) with
     | true =>
       obtain ⟨c4,_⟩ := h2' true (by simp [(kq mr.kind 1).1 hq1])
       simp [hcM,hlM,b1,b2,b3,hq1]
       refine bndD_same c4 ?_
       dsimp only
       refine bnd_of (d2 _ _) ?_
       dsimp only
       refine bnd_of z1 ?_
       dsimp only
       refine bndD_of ⟨rfl,z2⟩ (.inl rfl) ?_
       exact fin N2 _ _ _ _ _ _ _ _ _ _ _ _ _ _ _ _ _ _ _ _ _ _ _ _ _ _ _ _ _ _ _ _ _ _ _ _ _ _ _ _ _ _ _ _ _ _ _ _ _ _ _ _ _ _ _ _ _ _ _ _ _ _ _ _ _ _ _ _ _ _ _ _ _ _ _ _ _ _ _ _ _ _ _ _ _ _ _ _ _ _ _ _ _ _ _ _ _ _ _ _ _ _ _ _ _ _ _ _ _ _ _ _ _ _ _ _ _ _ _ _ _ _ _ _ _ _ _ _ _ _ _ _ _ _ _ _ _ _ _ _ _ _ _ _ _ _ _ _ _ _ _ _ _ _ _ _ _ _ _ _ _ _ _ _ _ _ _ _ _ _ _ _ _ _ _ _ _ _ _ _ _ _ _ _ _ _ _ _ _ _ _ _ _ _ _ _ _ _ _ _ _ _ _ _ _ _ _ _ _ _ _ _ _ _ _ _ _ _ _ _ _ _ _ _ _ _ _ _ _ _ _ _ _ _ _ _ _ _ _ _ _ _ _ _ _ _ _ _ _ _ _ _ _ z3 z4
     | false =>
       obtain ⟨c4,_⟩ := h2' ((mr.kind.toNat : Int) == 2) (by
        refine (kq mr.kind 2).trans ?_
        have : ¬ mr.kind = 1 := fun e => absurd (hq1.symm.trans ((kq mr.kind 1).2 e)) (by decide)
        simp [this])
       simp [hcM,hlM,b1,b2,b3,hq1]
       refine bndD_same c4 ?_
       dsimp only
       refine bnd_of (d2 _ _) ?_
       dsimp only
       refine bnd_of z1 ?_
       dsimp only
       refine bndD_of ⟨rfl,z2⟩ (.inl rfl) ?_
       exact fin N2 _ _ _ _ _ _ _ _ _ _ _ _ _ _ _ _ _ _ _ _ _ _ _ _ _ _ _ _ _ _ _ _ _ _ _ _ _ _ _ _ _ _ _ _ _ _ _ _ _ _ _ _ _ _ _ _ _ _ _ _ _ _ _ _ _ _ _ _ _ _ _ _ _ _ _ _ _ _ _ _ _ _ _ _ _ _ _ _ _ _ _ _ _ _ _ _ _ _ _ _ _ _ _ _ _ _ _ _ _ _ _ _ _ _ _ _ _ _ _ _ _ _ _ _ _ _ _ _ _ _ _ _ _ _ _ _ _ _ _ _ _ _ _ _ _ _ _ _ _ _ _ _ _ _ _ _ _ _ _ _ _ _ _ _ _ _ _ _ _ _ _ _ _ _ _ _ _ _ _ _ _ _ _ _ _ _ _ _ _ _ _ _ _ _ _ _ _ _ _ _ _ _ _ _ _ _ _ _ _ _ _ _ _ _ _ _ _ _ _ _ _ _ _ _ _ _ _ _ _ _ _ _ _ _ _ _ _ _ _ _ _ _ _ _ _ _ _ _ _ _ _ _ _ z3 z4
   · obtain ⟨g1,g2,g3,g4⟩ := f3 (by rw [k2]; decide)
     have g5 := g4 (by rw [k2]; decide)
     obtain ⟨L,hL⟩ : ∃ L : Nat,n.left = L := ⟨n.left.toNat,by omega⟩
     obtain ⟨R,hR⟩ : ∃ R : Nat,n.right = R := ⟨n.right.toNat,by omega⟩
     obtain ⟨ml,l1,l2⟩ := node_of L (by omega)
     obtain ⟨mr,r1,r2⟩ := node_of R (by omega)
     obtain ⟨x,x0,b1,b2,b3⟩ := kind_at R mr r1
     have htx : txtR ns (i + 1) i 0 = txtR ns i L 0 ++ [32,111,114,32] ++ txtR ns i R 1 := by
      have e0 : ¬ ((2 : UInt8) = 0) := by decide
      have e1 : ¬ ((2 : UInt8) = 1) := by decide
      have e3 : ¬ ((2 : UInt8) = 3) := by decide
      have es : ¬ strongI 2 < 0 := by decide
      rw [txtR,hnd]
      simp only [k2,hL,hR,e0,e1,e3,es,if_false,if_true,Int.toNat_natCast]
     have hl0 : txtR ns i L 0 = txtR ns (L + 1) L 0 := fit_txt hfit L i (L + 1) 0 (by omega) (by omega)
     have hls := hs L (by omega)
     rw [← hl0] at hls
     obtain ⟨q,a1,a2⟩ := row_str (k := .i64) hc1 (txl_get (ns := ns) (i := i) (j := L) (by omega) (by omega))
     rw [txl_len] at a1
     rw [← hl0] at a2
     obtain ⟨c1,c2⟩ := sideK R mr ((mr.kind.toNat : Int) == 2) 1 (by omega) r1 (by rw [(strong_of r2).1]; exact kq mr.kind 2)
     have d1 := cat (txtR ns i L 0) [32,111,114,32] (by simp; omega)
     have d2 := cat (txtR ns i L 0 ++ [32,111,114,32]) (txtR ns i R 1) (by simp; omega)
     obtain ⟨z,N2,z1,z2,z3,z4⟩ := put M1 _ hp1' hb1 htx.symm
     have e1 : (n.kind.toNat : Int) = 2 := by rw [k2]; rfl
     simp only [hL,hR] at hcM
     simp [e1,hcM,hlM,a1,a2]
     refine bnd_of (d1 _ _) ?_
     simp [hcM,hlM,b1,b2,b3]
     refine bndD_same c1 ?_
     dsimp only
     refine bnd_of (d2 _ _) ?_
     dsimp only
     refine bnd_of z1 ?_
     dsimp only
     refine bndD_of ⟨rfl,z2⟩ (.inl rfl) ?_
     exact fin N2 _ _ _ _ _ _ _ _ _ _ _ _ _ _ _ _ _ _ _ _ _ _ _ _ _ _ _ _ _ _ _ _ _ _ _ _ _ _ _ _ _ _ _ _ _ _ _ _ _ _ _ _ _ _ _ _ _ _ _ _ _ _ _ _ _ _ _ _ _ _ _ _ _ _ _ _ _ _ _ _ _ _ _ _ _ _ _ _ _ _ _ _ _ _ _ _ _ _ _ _ _ _ _ _ _ _ _ _ _ _ _ _ _ _ _ _ _ _ _ _ _ _ _ _ _ _ _ _ _ _ _ _ _ _ _ _ _ _ _ _ _ _ _ _ _ _ _ _ _ _ _ _ _ _ _ _ _ _ _ _ _ _ _ _ _ _ _ _ _ _ _ _ _ _ _ _ _ _ _ _ _ _ _ _ _ _ _ _ _ _ _ _ _ _ _ _ _ _ _ _ _ _ _ _ _ _ _ _ _ _ _ _ _ _ _ _ _ _ _ _ _ _ _ _ _ _ _ _ _ _ _ _ _ _ _ _ _ _ _ _ _ _ _ _ _ _ _ _ _ _ _ _ _ z3 z4
   · obtain ⟨g1,g2,g3,_⟩ := f3 (by rw [k3]; decide)
     obtain ⟨L,hL⟩ : ∃ L : Nat,n.left = L := ⟨n.left.toNat,by omega⟩
     obtain ⟨ml,l1,l2⟩ := node_of L (by omega)
     obtain ⟨q,q0,a1,a2,a3⟩ := kind_at L ml l1
     have htx : txtR ns (i + 1) i 0 = [110,111,116,32] ++ txtR ns i L 2 := by
      have e0 : ¬ ((3 : UInt8) = 0) := by decide
      have es : ¬ strongI 3 < 0 := by decide
      rw [txtR,hnd]
      simp only [k3,hL,e0,es,if_false,if_true,Int.toNat_natCast]
     have h2' : ∀ c : Bool,(c = true ↔ ml.kind = 1 ∨ ml.kind = 2) → _ := fun c hc => sideK L ml c 2 (by omega) l1 (by rw [(strong_of l2).2]; exact hc)
     obtain ⟨_,c3⟩ := h2' (decide (ml.kind = 1 ∨ ml.kind = 2)) (by simp)
     have d2 := cat [110,111,116,32] (txtR ns i L 2) (by simp; omega)
     obtain ⟨z,N2,z1,z2,z3,z4⟩ := put M1 _ hp1' hb1 htx.symm
     have e1 : (n.kind.toNat : Int) = 3 := by rw [k3]; rfl
     simp only [hL] at hcM
     cases hq1 : ((ml.kind.toNat : Int) == 1) with
     | true =>
       obtain ⟨c4,_⟩ := h2' true (by simp [(kq ml.kind 1).1 hq1])
       simp [e1,hcM,hlM,a1,a2,a3,hq1]
       refine bndD_same c4 ?_
       dsimp only
       refine bnd_of (d2 _ _) ?_
       dsimp only
       refine bnd_of z1 ?_
       dsimp only
       refine bndD_of ⟨rfl,z2⟩ (.inl rfl) ?_
       exact fin N2 _ _ _ _ _ _ _ _ _ _ _ _ _ _ _ _ _ _ _ _ _ _ _ _ _ _ _ _ _ _ _ _ _ _ _ _ _ _ _ _ _ _ _ _ _ _ _ _ _ _ _ _ _ _ _ _ _ _ _ _ _ _ _ _ _ _ _ _ _ _ _ _ _ _ _ _ _ _ _ _ _ _ _ _ _ _ _ _ _ _ _ _ _ _ _ _ _ _ _ _ _ _ _ _ _ _ _ _ _ _ _ _ _ _ _ _ _ _ _ _ _ _ _ _ _ _ _ _ _ _ _ _ _ _ _ _ _ _ _ _ _ _ _ _ _ _ _ _ _ _ _ _ _ _ _ _ _ _ _ _ _ _ _ _ _ _ _ _ _ _ _ _ _ _ _ _ _ _ _ _ _ _ _ _ _ _ _ _ _ _ _ _ _ _ _ _ _ _ _ _ _ _ _ _ _ _ _ _ _ _ _ _ _ _ _ _ _ _ _ _ _ _ _ _ _ _ _ _ _ _ _ _ _ _ _ _ _ _ _ _ _ _ _ _ _ _ _ _ _ _ _ _ _ z3 z4
     | false =>
       obtain ⟨c4,_⟩ := h2' ((ml.kind.toNat : Int) == 2) (by
        refine (kq ml.kind 2).trans ?_
        have : ¬ ml.kind = 1 := fun e => absurd (hq1.symm.trans ((kq ml.kind 1).2 e)) (by decide)
        simp [this])
       simp [e1,hcM,hlM,a1,a2,a3,hq1]
       refine bndD_same c4 ?_
       dsimp only
       refine bnd_of (d2 _ _) ?_
       dsimp only
       refine bnd_of z1 ?_
       dsimp only
       refine bndD_of ⟨rfl,z2⟩ (.inl rfl) ?_
       exact fin N2 _ _ _ _ _ _ _ _ _ _ _ _ _ _ _ _ _ _ _ _ _ _ _ _ _ _ _ _ _ _ _ _ _ _ _ _ _ _ _ _ _ _ _ _ _ _ _ _ _ _ _ _ _ _ _ _ _ _ _ _ _ _ _ _ _ _ _ _ _ _ _ _ _ _ _ _ _ _ _ _ _ _ _ _ _ _ _ _ _ _ _ _ _ _ _ _ _ _ _ _ _ _ _ _ _ _ _ _ _ _ _ _ _ _ _ _ _ _ _ _ _ _ _ _ _ _ _ _ _ _ _ _ _ _ _ _ _ _ _ _ _ _ _ _ _ _ _ _ _ _ _ _ _ _ _ _ _ _ _ _ _ _ _ _ _ _ _ _ _ _ _ _ _ _ _ _ _ _ _ _ _ _ _ _ _ _ _ _ _ _ _ _ _ _ _ _ _ _ _ _ _ _ _ _ _ _ _ _ _ _ _ _ _ _ _ _ _ _ _ _ _ _ _ _ _ _ _ _ _ _ _ _ _ _ _ _ _ _ _ _ _ _ _ _ _ _ _ _ _ _ _ _ _ z3 z4
end
end Go.Vi
namespace Go.Vi
open Go Go.Proofs
theorem Cond.text {ns : List Nod} {s e : Nat} (hc : Cond ns s e) : ∀ (f : Nat) (least : Int),e < f → txtF ns f e least ≠ [] := by
 have w : ∀ {p : Prop} [Decidable p] {B : List UInt8},B ≠ [] → (if p then [40] ++ B ++ [41] else B) ≠ [] := by
  intro p _ B h
  split
  · simp
  · exact h
 induction hc with
 | cmp e n h1 h2 h3 =>
   intro f least hf
   obtain ⟨f,rfl⟩ : ∃ g,f = g + 1 := ⟨f - 1,by omega⟩
   simp only [txtF,h1,h2,if_true]
   exact w (by simp [leafS])
 | neg s e n h1 h2 h3 h4 h5 hc ih =>
   intro f least hf
   obtain ⟨f,rfl⟩ : ∃ g,f = g + 1 := ⟨f - 1,by omega⟩
   have k0 : ¬ ((3 : UInt8) = 0) := by decide
   simp only [txtF,h1,h2,k0,if_false,if_true]
   exact w (by simp)
 | two s r' e n h1 h2 h3 h4 h5 hc1 hc2 ih1 ih2 =>
   intro f least hf
   obtain ⟨f,rfl⟩ : ∃ g,f = g + 1 := ⟨f - 1,by omega⟩
   have k0 : ¬ (n.kind = 0) := by rcases h2 with h2 | h2 <;> (rw [h2]; decide)
   have k3 : ¬ (n.kind = 3) := by rcases h2 with h2 | h2 <;> (rw [h2]; decide)
   simp only [txtF,h1,k0,k3,if_false]
   refine w ?_
   rcases h2 with h2 | h2
   · rw [if_pos h2]; simp
   · rw [if_neg (by rw [h2]; decide),if_pos h2]; simp
theorem print_ne {ns : List Nod} (h : right ns = true) : printS ns ≠ [] := by
 obtain ⟨h1,h2,hc⟩ := right_cond h
 have hp : printS ns = txtF ns ns.length (ns.length - 1) 0 := by unfold printS; rw [if_pos h]
 rw [hp]
 exact hc.text _ _ (by omega)
theorem print_nil {ns : List Nod} (h : right ns = false) : printS ns = [] := by unfold printS; rw [h]; rfl
section
variable {H : AHeap} {s : List UInt8}
end
end Go.Vi
namespace Go.Vi
open Go Go.Proofs Go.Proofs.Try
theorem sael1 : aElem prog 23 = some (9,1,16) := by kernel_rfl
theorem mk_strs (K : AHeap) {n : Nat} (hn : n ≤ 2 ^ 20) : aMake prog K 23 (i64 n) (i64 n) = some (.slice (some ⟨K.length,0,some n⟩) n n,K ++ [.cells ((List.replicate n ([] : List UInt8)).map str) 9]) := by
 have hz : zcells prog 9 = some #[.string ByteArray.empty] := by kernel_rfl
 have hr : (repCells #[Value.string ByteArray.empty] n).toList = (List.replicate n ([] : List UInt8)).map str := by
  unfold repCells
  apply List.ext_getElem?
  intro i
  simp only [Array.toList_map,Array.toList_range,List.getElem?_map,List.map_replicate,List.getElem?_replicate]
  by_cases h : i < n
  · rw [List.getElem?_range h,if_pos h]
    simp
    rw [Nat.mod_one]
    rfl
  · rw [List.getElem?_eq_none (by simpa using h),if_neg h]; rfl
 unfold aMake
 simp only [sael1,hz]
 rw [if_pos ⟨by omega,by omega,by omega,by omega,by rfl⟩]
 simp [hr]
section
variable {H : AHeap} {v : Value} {ns : List Nod} {k : Value → AHeap → Prop}
theorem refP_bad {ns : List Nod} {i : Nat} {n : Nod} (hn : ns[i]? = some n) (hb : ¬ fitN i n) : refP ns = [] := by
 unfold refP
 split
 · rfl
 · rw [if_pos (fun h => hb (h i n hn))]
set_option maxHeartbeats 4000000 in
set_option maxRecDepth 20000 in
theorem fit_loop (hn : NodesAt H v ns) (h1 : 1 ≤ ns.length) (h31 : ns.length ≤ 31) (hok : PrOk ns) (hk : ∀ K,Pre H K → k (str (refP ns)) K) :
  ∀ (d i : Nat) (M : AHeap) (s1 s2 s4 s5 s6 s7 s8 s9 s10 s11 s12 s13 s14 s15 s16 s17 s18 s19 s20 s21 s22 s23 s24 s25 s26 s27 s28 s29 s30 s31 s32 s33 s34 s35 s36 s37 s38 s39 s40 s41 s42 s43 s44 s45 s46 s47 s48 s49 s50 s51 s52 s53 s54 s55 s56 s57 s58 s59 s60 s61 s62 s63 s64 s65 s66 s67 s68 s69 s70 s71 s72 s73 s74 s75 s76 s77 s78 s79 s80 s81 s82 s83 s84 s85 s86 s87 s88 s89 s90 s91 s92 s93 s94 s95 s96 s97 s98 s99 s100 s101 s102 s103 s104 s105 s106 s107 s108 s109 s110 s111 s112 s113 s114 s115 s116 s117 s118 s119 s120 s121 s122 s123 s124 s125 s126 s127 s128 s129 s130 s131 s132 s133 s134 s135 s136 s137 s138 s139 s140 s141 s142 s143 s144 s145 s146 s147 s148 s149 s150 s151 s152 s153 s154 s155 s156 s157 s158 s159 s160 s161 s162 s163 s164 s165 s166 s167 s168 s169 s170 s171 s172 s173 s174 s175 s176 s177 s178 s179 s180 s181 s182 s183 s184 s185 s186 s187 s188 s189 s190 s191 s192 s193 s194 s195 s196 s197 s198 s199 s200 s201 s202 s203 s204 s205 s206 s207 s208 s209 s210 s211 s212 s213 s214 s215 s216 s217 s218 s219 s220 s221 s222 s223 s224 s225 s226 s227 s228 s229 s230 s231 s232 s233 s234 s235 s236 s237 s238 s239 s240 s241 s242 s243 s244 s245 s246 s247 s248 s249 s250 s251 s252 s253 s254 s255 : Value), d + i = ns.length → Pre H M → (∀ (j : Nat) n, j < i → ns[j]? = some n → fitN j n) →
    L54x0 (d + 1) k [v,s1,s2,i64 i,s4,s5,s6,s7,s8,s9,s10,s11,s12,s13,s14,s15,s16,s17,s18,s19,s20,s21,s22,s23,s24,s25,s26,s27,s28,s29,s30,s31,s32,s33,s34,s35,s36,s37,s38,s39,s40,s41,s42,s43,s44,s45,s46,s47,s48,s49,s50,s51,s52,s53,s54,s55,s56,s57,s58,s59,s60,s61,s62,s63,s64,s65,s66,s67,s68,s69,s70,s71,s72,s73,s74,s75,s76,s77,s78,s79,s80,s81,s82,s83,s84,s85,s86,s87,s88,s89,s90,s91,s92,s93,s94,s95,s96,s97,s98,s99,s100,s101,s102,s103,s104,s105,s106,s107,s108,s109,s110,s111,s112,s113,s114,s115,s116,s117,s118,s119,s120,s121,s122,s123,s124,s125,s126,s127,s128,s129,s130,s131,s132,s133,s134,s135,s136,s137,s138,s139,s140,s141,s142,s143,s144,s145,s146,s147,s148,s149,s150,s151,s152,s153,s154,s155,s156,s157,s158,s159,s160,s161,s162,s163,s164,s165,s166,s167,s168,s169,s170,s171,s172,s173,s174,s175,s176,s177,s178,s179,s180,s181,s182,s183,s184,s185,s186,s187,s188,s189,s190,s191,s192,s193,s194,s195,s196,s197,s198,s199,s200,s201,s202,s203,s204,s205,s206,s207,s208,s209,s210,s211,s212,s213,s214,s215,s216,s217,s218,s219,s220,s221,s222,s223,s224,s225,s226,s227,s228,s229,s230,s231,s232,s233,s234,s235,s236,s237,s238,s239,s240,s241,s242,s243,s244,s245,s246,s247,s248,s249,s250,s251,s252,s253,s254,s255] M := by
 intro d
 induction d with
 | zero =>
   intro i M s1 s2 s4 s5 s6 s7 s8 s9 s10 s11 s12 s13 s14 s15 s16 s17 s18 s19 s20 s21 s22 s23 s24 s25 s26 s27 s28 s29 s30 s31 s32 s33 s34 s35 s36 s37 s38 s39 s40 s41 s42 s43 s44 s45 s46 s47 s48 s49 s50 s51 s52 s53 s54 s55 s56 s57 s58 s59 s60 s61 s62 s63 s64 s65 s66 s67 s68 s69 s70 s71 s72 s73 s74 s75 s76 s77 s78 s79 s80 s81 s82 s83 s84 s85 s86 s87 s88 s89 s90 s91 s92 s93 s94 s95 s96 s97 s98 s99 s100 s101 s102 s103 s104 s105 s106 s107 s108 s109 s110 s111 s112 s113 s114 s115 s116 s117 s118 s119 s120 s121 s122 s123 s124 s125 s126 s127 s128 s129 s130 s131 s132 s133 s134 s135 s136 s137 s138 s139 s140 s141 s142 s143 s144 s145 s146 s147 s148 s149 s150 s151 s152 s153 s154 s155 s156 s157 s158 s159 s160 s161 s162 s163 s164 s165 s166 s167 s168 s169 s170 s171 s172 s173 s174 s175 s176 s177 s178 s179 s180 s181 s182 s183 s184 s185 s186 s187 s188 s189 s190 s191 s192 s193 s194 s195 s196 s197 s198 s199 s200 s201 s202 s203 s204 s205 s206 s207 s208 s209 s210 s211 s212 s213 s214 s215 s216 s217 s218 s219 s220 s221 s222 s223 s224 s225 s226 s227 s228 s229 s230 s231 s232 s233 s234 s235 s236 s237 s238 s239 s240 s241 s242 s243 s244 s245 s246 s247 s248 s249 s250 s251 s252 s253 s254 s255 hi hp hf
   obtain rfl : i = ns.length := by omega
   have hfit : ∀ (j : Nat) n,ns[j]? = some n → fitN j n := fun j n hj => hf j n (List.getElem?_eq_some_iff.1 hj).1 hj
   have hlen := fun J => (hn.pre hp).len J
   have hmk := mk_strs M (n := ns.length) (by omega)
   have ht0 : List.replicate ns.length ([] : List UInt8) = txl ns 0 := by
    apply List.ext_getElem?
    intro j
    unfold txl
    rw [List.getElem?_replicate,List.getElem?_map]
    by_cases h : j < ns.length
    · rw [if_pos h,List.getElem?_range h]; simp
    · rw [if_neg h,List.getElem?_eq_none (by simpa using h)]; rfl
   rw [ht0] at hmk
   rw [L54x0q]
   simp [hlen,hmk]
   have hpl : H.length ≤ M.length := by obtain ⟨X,rfl⟩ := hp; simp
   exact ⟨ns.length + 1,txt_loop hn h1 h31 hok hfit hpl hk ns.length 0 _ _ _ _ _ _ _ _ _ _ _ _ _ _ _ _ _ _ _ _ _ _ _ _ _ _ _ _ _ _ _ _ _ _ _ _ _ _ _ _ _ _ _ _ _ _ _ _ _ _ _ _ _ _ _ _ _ _ _ _ _ _ _ _ _ _ _ _ _ _ _ _ _ _ _ _ _ _ _ _ _ _ _ _ _ _ _ _ _ _ _ _ _ _ _ _ _ _ _ _ _ _ _ _ _ _ _ _ _ _ _ _ _ _ _ _ _ _ _ _ _ _ _ _ _ _ _ _ _ _ _ _ _ _ _ _ _ _ _ _ _ _ _ _ _ _ _ _ _ _ _ _ _ _ _ _ _ _ _ _ _ _ _ _ _ _ _ _ _ _ _ _ _ _ _ _ _ _ _ _ _ _ _ _ _ _ _ _ _ _ _ _ _ _ _ _ _ _ _ _ _ _ _ _ _ _ _ _ _ _ _ _ _ _ _ _ _ _ _ _ _ _ _ _ _ _ _ _ _ _ _ _ _ _ _ _ _ _ _ _ _ _ _ _ _ _ _ _ _ _ _ _ _ _ (by omega) (hp.more _) (by simp) (fun j hj => by omega)⟩
 | succ d ih =>
   intro i M s1 s2 s4 s5 s6 s7 s8 s9 s10 s11 s12 s13 s14 s15 s16 s17 s18 s19 s20 s21 s22 s23 s24 s25 s26 s27 s28 s29 s30 s31 s32 s33 s34 s35 s36 s37 s38 s39 s40 s41 s42 s43 s44 s45 s46 s47 s48 s49 s50 s51 s52 s53 s54 s55 s56 s57 s58 s59 s60 s61 s62 s63 s64 s65 s66 s67 s68 s69 s70 s71 s72 s73 s74 s75 s76 s77 s78 s79 s80 s81 s82 s83 s84 s85 s86 s87 s88 s89 s90 s91 s92 s93 s94 s95 s96 s97 s98 s99 s100 s101 s102 s103 s104 s105 s106 s107 s108 s109 s110 s111 s112 s113 s114 s115 s116 s117 s118 s119 s120 s121 s122 s123 s124 s125 s126 s127 s128 s129 s130 s131 s132 s133 s134 s135 s136 s137 s138 s139 s140 s141 s142 s143 s144 s145 s146 s147 s148 s149 s150 s151 s152 s153 s154 s155 s156 s157 s158 s159 s160 s161 s162 s163 s164 s165 s166 s167 s168 s169 s170 s171 s172 s173 s174 s175 s176 s177 s178 s179 s180 s181 s182 s183 s184 s185 s186 s187 s188 s189 s190 s191 s192 s193 s194 s195 s196 s197 s198 s199 s200 s201 s202 s203 s204 s205 s206 s207 s208 s209 s210 s211 s212 s213 s214 s215 s216 s217 s218 s219 s220 s221 s222 s223 s224 s225 s226 s227 s228 s229 s230 s231 s232 s233 s234 s235 s236 s237 s238 s239 s240 s241 s242 s243 s244 s245 s246 s247 s248 s249 s250 s251 s252 s253 s254 s255 hi hp hf
   have hlt : i < ns.length := by omega
   obtain ⟨n,hnd⟩ : ∃ n,ns[i]? = some n := ⟨_,List.getElem?_eq_getElem hlt⟩
   have hlen := fun J => (hn.pre hp).len J
   obtain ⟨cl,ha,hcl,hc⟩ := hn.pre hp
   obtain ⟨sv,hsv,hm,hml⟩ := hc _ _ hnd
   obtain ⟨p,hp1,hp2⟩ := ha.load (P := prog) (T := 22) (te := 50) (i := i) (e := n.cells sv) (by simp) (by simp) (by simp) hsv
   have hone := hm.one
   have hcM : hcells (M ++ [.cells (n.cells sv) 50]) M.length = some (n.cells sv) := by simp
   have hpM : Pre M (M ++ [.cells (n.cells sv) 50]) := .app _ _
   rw [L54x0q]
   generalize hM : M ++ [AObj.cells (n.cells sv) 50] = M1 at hcM hpM
   have hp1' := hp.trans hpM
   simp only [Nod.cells] at hcM hM
   have hlM : Vi.hlen M1 M.length = some 8 := by rw [hcells_len hcM]; rfl
   have w1 : i + 1 < 2 ^ 63 := by omega
   have bad : ¬ fitN i n → k (str []) M1 := by
    intro h
    have := hk M1 hp1'
    rw [refP_bad hnd h] at this
    exact this
   have good : fitN i n → ∀ (s1 s2 s4 s5 s6 s7 s8 s9 s10 s11 s12 s13 s14 s15 s16 s17 s18 s19 s20 s21 s22 s23 s24 s25 s26 s27 s28 s29 s30 s31 s32 s33 s34 s35 s36 s37 s38 s39 s40 s41 s42 s43 s44 s45 s46 s47 s48 s49 s50 s51 s52 s53 s54 s55 s56 s57 s58 s59 s60 s61 s62 s63 s64 s65 s66 s67 s68 s69 s70 s71 s72 s73 s74 s75 s76 s77 s78 s79 s80 s81 s82 s83 s84 s85 s86 s87 s88 s89 s90 s91 s92 s93 s94 s95 s96 s97 s98 s99 s100 s101 s102 s103 s104 s105 s106 s107 s108 s109 s110 s111 s112 s113 s114 s115 s116 s117 s118 s119 s120 s121 s122 s123 s124 s125 s126 s127 s128 s129 s130 s131 s132 s133 s134 s135 s136 s137 s138 s139 s140 s141 s142 s143 s144 s145 s146 s147 s148 s149 s150 s151 s152 s153 s154 s155 s156 s157 s158 s159 s160 s161 s162 s163 s164 s165 s166 s167 s168 s169 s170 s171 s172 s173 s174 s175 s176 s177 s178 s179 s180 s181 s182 s183 s184 s185 s186 s187 s188 s189 s190 s191 s192 s193 s194 s195 s196 s197 s198 s199 s200 s201 s202 s203 s204 s205 s206 s207 s208 s209 s210 s211 s212 s213 s214 s215 s216 s217 s218 s219 s220 s221 s222 s223 s224 s225 s226 s227 s228 s229 s230 s231 s232 s233 s234 s235 s236 s237 s238 s239 s240 s241 s242 s243 s244 s245 s246 s247 s248 s249 s250 s251 s252 s253 s254 s255 : Value),L54x0 (d + 1) k [v,s1,s2,i64 ((i : Int) + 1),s4,s5,s6,s7,s8,s9,s10,s11,s12,s13,s14,s15,s16,s17,s18,s19,s20,s21,s22,s23,s24,s25,s26,s27,s28,s29,s30,s31,s32,s33,s34,s35,s36,s37,s38,s39,s40,s41,s42,s43,s44,s45,s46,s47,s48,s49,s50,s51,s52,s53,s54,s55,s56,s57,s58,s59,s60,s61,s62,s63,s64,s65,s66,s67,s68,s69,s70,s71,s72,s73,s74,s75,s76,s77,s78,s79,s80,s81,s82,s83,s84,s85,s86,s87,s88,s89,s90,s91,s92,s93,s94,s95,s96,s97,s98,s99,s100,s101,s102,s103,s104,s105,s106,s107,s108,s109,s110,s111,s112,s113,s114,s115,s116,s117,s118,s119,s120,s121,s122,s123,s124,s125,s126,s127,s128,s129,s130,s131,s132,s133,s134,s135,s136,s137,s138,s139,s140,s141,s142,s143,s144,s145,s146,s147,s148,s149,s150,s151,s152,s153,s154,s155,s156,s157,s158,s159,s160,s161,s162,s163,s164,s165,s166,s167,s168,s169,s170,s171,s172,s173,s174,s175,s176,s177,s178,s179,s180,s181,s182,s183,s184,s185,s186,s187,s188,s189,s190,s191,s192,s193,s194,s195,s196,s197,s198,s199,s200,s201,s202,s203,s204,s205,s206,s207,s208,s209,s210,s211,s212,s213,s214,s215,s216,s217,s218,s219,s220,s221,s222,s223,s224,s225,s226,s227,s228,s229,s230,s231,s232,s233,s234,s235,s236,s237,s238,s239,s240,s241,s242,s243,s244,s245,s246,s247,s248,s249,s250,s251,s252,s253,s254,s255] M1 := by
    intro h s1 s2 s4 s5 s6 s7 s8 s9 s10 s11 s12 s13 s14 s15 s16 s17 s18 s19 s20 s21 s22 s23 s24 s25 s26 s27 s28 s29 s30 s31 s32 s33 s34 s35 s36 s37 s38 s39 s40 s41 s42 s43 s44 s45 s46 s47 s48 s49 s50 s51 s52 s53 s54 s55 s56 s57 s58 s59 s60 s61 s62 s63 s64 s65 s66 s67 s68 s69 s70 s71 s72 s73 s74 s75 s76 s77 s78 s79 s80 s81 s82 s83 s84 s85 s86 s87 s88 s89 s90 s91 s92 s93 s94 s95 s96 s97 s98 s99 s100 s101 s102 s103 s104 s105 s106 s107 s108 s109 s110 s111 s112 s113 s114 s115 s116 s117 s118 s119 s120 s121 s122 s123 s124 s125 s126 s127 s128 s129 s130 s131 s132 s133 s134 s135 s136 s137 s138 s139 s140 s141 s142 s143 s144 s145 s146 s147 s148 s149 s150 s151 s152 s153 s154 s155 s156 s157 s158 s159 s160 s161 s162 s163 s164 s165 s166 s167 s168 s169 s170 s171 s172 s173 s174 s175 s176 s177 s178 s179 s180 s181 s182 s183 s184 s185 s186 s187 s188 s189 s190 s191 s192 s193 s194 s195 s196 s197 s198 s199 s200 s201 s202 s203 s204 s205 s206 s207 s208 s209 s210 s211 s212 s213 s214 s215 s216 s217 s218 s219 s220 s221 s222 s223 s224 s225 s226 s227 s228 s229 s230 s231 s232 s233 s234 s235 s236 s237 s238 s239 s240 s241 s242 s243 s244 s245 s246 s247 s248 s249 s250 s251 s252 s253 s254 s255
    rw [show ((i : Int) + 1) = ((i + 1 : Nat) : Int) by omega]
    refine ih (i + 1) M1 _ _ _ _ _ _ _ _ _ _ _ _ _ _ _ _ _ _ _ _ _ _ _ _ _ _ _ _ _ _ _ _ _ _ _ _ _ _ _ _ _ _ _ _ _ _ _ _ _ _ _ _ _ _ _ _ _ _ _ _ _ _ _ _ _ _ _ _ _ _ _ _ _ _ _ _ _ _ _ _ _ _ _ _ _ _ _ _ _ _ _ _ _ _ _ _ _ _ _ _ _ _ _ _ _ _ _ _ _ _ _ _ _ _ _ _ _ _ _ _ _ _ _ _ _ _ _ _ _ _ _ _ _ _ _ _ _ _ _ _ _ _ _ _ _ _ _ _ _ _ _ _ _ _ _ _ _ _ _ _ _ _ _ _ _ _ _ _ _ _ _ _ _ _ _ _ _ _ _ _ _ _ _ _ _ _ _ _ _ _ _ _ _ _ _ _ _ _ _ _ _ _ _ _ _ _ _ _ _ _ _ _ _ _ _ _ _ _ _ _ _ _ _ _ _ _ _ _ _ _ _ _ _ _ _ _ _ _ _ _ _ _ _ _ _ _ _ _ _ _ _ _ _ _ (by omega) hp1' (fun j m hj hm => ?_)
    by_cases e : j = i
    · subst e; rw [hnd] at hm; cases hm; exact h
    · exact hf j m (by omega) hm
   clear ih hf hk
   have z0 : (n.kind = 0) ↔ (n.kind.toNat : Int) = 0 := ⟨fun h => by rw [h]; rfl,fun h => UInt8.toNat_inj.1 (by show n.kind.toNat = 0; omega)⟩
   have z3 : (n.kind = 3) ↔ (n.kind.toNat : Int) = 3 := ⟨fun h => by rw [h]; rfl,fun h => UInt8.toNat_inj.1 (by show n.kind.toNat = 3; omega)⟩
   by_cases c0 : (3 : Int) < n.kind.toNat
   · simp [hlen,hlt,hp1,hp2,Nod.cells,hone,hM,hcM,hlM,c0]
     exact bad (fun h => by have := h.1; omega)
   · by_cases c1 : (n.kind.toNat : Int) = 0
     · have kz := z0.2 c1
       by_cases c2 : (5 : Int) < n.agg.toNat
       · simp [hlen,hlt,hp1,hp2,Nod.cells,hone,hM,hcM,hlM,c1,c2]
         exact bad (fun h => by have := (h.2.1 kz).1; omega)
       · by_cases c3 : (5 : Int) < n.cmp.toNat
         · simp [hlen,hlt,hp1,hp2,Nod.cells,hone,hM,hcM,hlM,c1,c2,c3]
           exact bad (fun h => by have := (h.2.1 kz).2; omega)
         · simp [hlen,hlt,hp1,hp2,Nod.cells,hone,hM,hcM,hlM,c1,c2,c3,w1]
           exact good ⟨by omega,fun _ => ⟨by omega,by omega⟩,fun h => absurd kz h⟩ _ _ _ _ _ _ _ _ _ _ _ _ _ _ _ _ _ _ _ _ _ _ _ _ _ _ _ _ _ _ _ _ _ _ _ _ _ _ _ _ _ _ _ _ _ _ _ _ _ _ _ _ _ _ _ _ _ _ _ _ _ _ _ _ _ _ _ _ _ _ _ _ _ _ _ _ _ _ _ _ _ _ _ _ _ _ _ _ _ _ _ _ _ _ _ _ _ _ _ _ _ _ _ _ _ _ _ _ _ _ _ _ _ _ _ _ _ _ _ _ _ _ _ _ _ _ _ _ _ _ _ _ _ _ _ _ _ _ _ _ _ _ _ _ _ _ _ _ _ _ _ _ _ _ _ _ _ _ _ _ _ _ _ _ _ _ _ _ _ _ _ _ _ _ _ _ _ _ _ _ _ _ _ _ _ _ _ _ _ _ _ _ _ _ _ _ _ _ _ _ _ _ _ _ _ _ _ _ _ _ _ _ _ _ _ _ _ _ _ _ _ _ _ _ _ _ _ _ _ _ _ _ _ _ _ _ _ _ _ _ _ _ _ _ _ _ _ _ _ _ _ _ _ _
     · have kz : n.kind ≠ 0 := fun h => c1 (z0.1 h)
       have c1b : ((n.kind.toNat : Int) == 0) = false := by simpa using c1
       have cg : 0 < n.kind.toNat := by omega
       by_cases c4 : n.left < 0
       · simp [hlen,hlt,hp1,hp2,Nod.cells,hone,hM,hcM,hlM,c0,c1b,cg,c4]
         exact bad (fun h => by have := (h.2.2 kz).1; omega)
       · by_cases c5 : (i : Int) ≤ n.left
         · simp [hlen,hlt,hp1,hp2,Nod.cells,hone,hM,hcM,hlM,c0,c1b,cg,c4,c5]
           exact bad (fun h => by have := (h.2.2 kz).2.1; omega)
         · by_cases c6 : n.right < 0
           · simp [hlen,hlt,hp1,hp2,Nod.cells,hone,hM,hcM,hlM,c0,c1b,cg,c4,c5,c6]
             exact bad (fun h => by have := (h.2.2 kz).2.2.1; omega)
           · by_cases c7 : (i : Int) ≤ n.right
             · by_cases c8 : (n.kind.toNat : Int) = 3
               · have c8b : ((n.kind.toNat : Int) != 3) = false := by simpa using c8
                 simp [hlen,hlt,hp1,hp2,Nod.cells,hone,hM,hcM,hlM,c0,c1b,cg,c4,c5,c6,c7,c8b,w1]
                 exact good ⟨by omega,fun h => absurd h kz,fun _ => ⟨by omega,by omega,by omega,fun h => absurd (z3.2 c8) h⟩⟩ _ _ _ _ _ _ _ _ _ _ _ _ _ _ _ _ _ _ _ _ _ _ _ _ _ _ _ _ _ _ _ _ _ _ _ _ _ _ _ _ _ _ _ _ _ _ _ _ _ _ _ _ _ _ _ _ _ _ _ _ _ _ _ _ _ _ _ _ _ _ _ _ _ _ _ _ _ _ _ _ _ _ _ _ _ _ _ _ _ _ _ _ _ _ _ _ _ _ _ _ _ _ _ _ _ _ _ _ _ _ _ _ _ _ _ _ _ _ _ _ _ _ _ _ _ _ _ _ _ _ _ _ _ _ _ _ _ _ _ _ _ _ _ _ _ _ _ _ _ _ _ _ _ _ _ _ _ _ _ _ _ _ _ _ _ _ _ _ _ _ _ _ _ _ _ _ _ _ _ _ _ _ _ _ _ _ _ _ _ _ _ _ _ _ _ _ _ _ _ _ _ _ _ _ _ _ _ _ _ _ _ _ _ _ _ _ _ _ _ _ _ _ _ _ _ _ _ _ _ _ _ _ _ _ _ _ _ _ _ _ _ _ _ _ _ _ _ _ _ _ _ _ _ _
               · have c8b : ((n.kind.toNat : Int) != 3) = true := by simpa using c8
                 simp [hlen,hlt,hp1,hp2,Nod.cells,hone,hM,hcM,hlM,c0,c1b,cg,c4,c5,c6,c7,c8b]
                 exact bad (fun h => by have := (h.2.2 kz).2.2.2 (fun e => c8 (z3.1 e)); omega)
             · simp [hlen,hlt,hp1,hp2,Nod.cells,hone,hM,hcM,hlM,c0,c1b,cg,c4,c5,c6,c7,w1]
               exact good ⟨by omega,fun h => absurd h kz,fun _ => ⟨by omega,by omega,by omega,fun _ => by omega⟩⟩ _ _ _ _ _ _ _ _ _ _ _ _ _ _ _ _ _ _ _ _ _ _ _ _ _ _ _ _ _ _ _ _ _ _ _ _ _ _ _ _ _ _ _ _ _ _ _ _ _ _ _ _ _ _ _ _ _ _ _ _ _ _ _ _ _ _ _ _ _ _ _ _ _ _ _ _ _ _ _ _ _ _ _ _ _ _ _ _ _ _ _ _ _ _ _ _ _ _ _ _ _ _ _ _ _ _ _ _ _ _ _ _ _ _ _ _ _ _ _ _ _ _ _ _ _ _ _ _ _ _ _ _ _ _ _ _ _ _ _ _ _ _ _ _ _ _ _ _ _ _ _ _ _ _ _ _ _ _ _ _ _ _ _ _ _ _ _ _ _ _ _ _ _ _ _ _ _ _ _ _ _ _ _ _ _ _ _ _ _ _ _ _ _ _ _ _ _ _ _ _ _ _ _ _ _ _ _ _ _ _ _ _ _ _ _ _ _ _ _ _ _ _ _ _ _ _ _ _ _ _ _ _ _ _ _ _ _ _ _ _ _ _ _ _ _ _ _ _ _ _ _ _ _ _
end
set_option maxRecDepth 20000 in
theorem r_print {H : AHeap} {v : Value} {ns : List Nod} (hn : NodesAt H v ns) (hok : PrOk ns) (hl : ns.length < 2 ^ 62) : ACalls prog 54 [v] H (str (printS ns)) H := by
 rw [← refP_eq]
 refine acalls_pure MixT func54 (by decide) rfl ?_
 rw [d54]
 have hlen := hn.len
 by_cases h1 : (ns.length : Int) < 1
 · have e : refP ns = [] := by unfold refP; rw [if_pos (by omega)]
   simp [hlen,h1,e]
 · by_cases h31 : (31 : Int) < ns.length
   · have e : refP ns = [] := by unfold refP; rw [if_pos (by omega)]
     simp [hlen,h1,h31,e]
   · simp [hlen,h1,h31]
     exact ⟨ns.length + 1,fit_loop hn (by omega) (by omega) hok (k := fun u H2 => u = str (refP ns) ∧ ∃ X,H2 = H ++ X) (fun K p => ⟨rfl,p⟩) ns.length 0 H _ _ _ _ _ _ _ _ _ _ _ _ _ _ _ _ _ _ _ _ _ _ _ _ _ _ _ _ _ _ _ _ _ _ _ _ _ _ _ _ _ _ _ _ _ _ _ _ _ _ _ _ _ _ _ _ _ _ _ _ _ _ _ _ _ _ _ _ _ _ _ _ _ _ _ _ _ _ _ _ _ _ _ _ _ _ _ _ _ _ _ _ _ _ _ _ _ _ _ _ _ _ _ _ _ _ _ _ _ _ _ _ _ _ _ _ _ _ _ _ _ _ _ _ _ _ _ _ _ _ _ _ _ _ _ _ _ _ _ _ _ _ _ _ _ _ _ _ _ _ _ _ _ _ _ _ _ _ _ _ _ _ _ _ _ _ _ _ _ _ _ _ _ _ _ _ _ _ _ _ _ _ _ _ _ _ _ _ _ _ _ _ _ _ _ _ _ _ _ _ _ _ _ _ _ _ _ _ _ _ _ _ _ _ _ _ _ _ _ _ _ _ _ _ _ _ _ _ _ _ _ _ _ _ _ _ _ _ _ _ _ _ _ _ _ _ _ _ _ _ _ _ _ _ (by omega) (.refl _) (fun j n hj => by omega)⟩
theorem r_right {H : AHeap} {v : Value} {ns : List Nod} (hn : NodesAt H v ns) (hok : PrOk ns) (hl : ns.length < 2 ^ 62) : ACalls prog 47 [v] H (.bool (right ns)) H := by
 refine acalls_pure MixT func47 (by decide) rfl ?_
 rw [d47]
 refine bndC_of (r_print hn hok hl) ?_
 cases hr : right ns with
 | true =>
   have := print_ne hr
   simp [this]
 | false =>
   have := print_nil hr
   simp [this]
end Go.Vi
namespace Go.Vi
open Go Go.Proofs
def Nod.tame (n : Nod) : Prop := n.sel.length ≤ 100 ∧ ∀ m ∈ n.sel,m.tame
section
variable {H : AHeap} {ns : List Nod} {v : Value} {k : Value → AHeap → Prop}
end
theorem tame_ok {ns : List Nod} (ht : ∀ n ∈ ns,n.tame) (hw : ∀ n ∈ ns,n.window < 2 ^ 63) : PrOk ns := ⟨hw,fun n hn => by have := (ht n hn).1; omega,fun n hn => (ht n hn).2⟩
end Go.Vi
namespace Go.Vi
open Go Go.Proofs Go.Proofs.Try
theorem nel1 : aElem prog 22 = some (50,8,72) := by kernel_rfl
theorem nel2 : isSeq prog 22 = true := by kernel_rfl
theorem Gro.fr {K K' lo z T v cl} (h : Gro K lo z T v cl) (hf : ∀ (b : Nat) o,lo ≤ b → K[b]? = some o → K'[b]? = some o) : Gro K' lo z T v cl := by
 cases h with
 | nil => exact .nil
 | mk bb cl h1 h2 h3 h4 => exact .mk bb cl h1 (hf _ _ h1 h2) h3 h4
end Go.Vi
namespace Go.Vi
open Go Go.Proofs
theorem src_flat {z : Nat} {cs : List Value} : ∀ (l : List (List Value)) (o : Nat),(∀ (i : Nat) e,l[i]? = some e → (cs.drop (o + i * z)).take z = e) → (cs.drop o).take (l.length * z) = l.flatten := by
 intro l
 induction l with
 | nil => intro o _; simp
 | cons c r ih =>
   intro o h
   have h0 := h 0 c rfl
   have hr := ih (o + z) fun i e hi => by
    have := h (i + 1) e (by simpa using hi)
    rw [← this,Nat.add_mul,Nat.one_mul]; congr 2; omega
   rw [List.length_cons,Nat.add_mul,Nat.one_mul,Nat.add_comm,List.take_add,List.drop_drop,hr,List.flatten_cons]
   simpa using congrArg (· ++ r.flatten) h0
theorem Arr.src {H z v l} (h : Arr H z v l) : aSrc H z v = some (l.length,l.flatten) := by
 cases h with
 | nil => rfl
 | mk b o m n c cs l hn hcs hm hle hel =>
   subst hn
   simp only [aSrc,hcs]
   rw [if_pos ⟨hm.symm,by omega⟩,src_flat l o hel]
theorem Arr.all_len {H z v l} (h : Arr H z v l) : ∀ c ∈ l,c.length = z := by
 intro c hc
 obtain ⟨i,hi⟩ := List.getElem?_of_mem hc
 exact h.elen hi
theorem Gro.pushN {P : Program} {K : AHeap} {lo z by_ : Nat} {T Ts : TypeId} {v x : Value} {cl ds : List (List Value)} (h : Gro K lo z T v cl) (hT : aElem P Ts = some (T,z,by_)) (hsq : isSeq P Ts = true) (hc : ∀ c ∈ ds,c.length = z) (hlo : lo ≤ K.length)
  (hx : aSrc K z x = some (ds.length,ds.flatten)) (hb : (cl.length + ds.length) * by_ ≤ 140737488355328) (hn : cl.length + ds.length ≤ 9223372036854775807) :
  ∃ v' K',aBuiltin P K .append #[Ts,Ts] [v,x] = some (v',K') ∧ Gro K' lo z T v' (cl ++ ds) ∧ (∀ b o,b < lo → K[b]? = some o → K'[b]? = some o) ∧ K.length ≤ K'.length ∧ (∀ H,Pre H K → H.length ≤ lo → Pre H K') := by
 by_cases hd : ds = []
 · subst hd
   refine ⟨v,K,?_,by simpa using h,fun b o _ h => h,Nat.le_refl _,fun H p _ => p⟩
   cases h with
   | nil => simp at hx; simp [aBuiltin,aAppend,hT,hx,hsq]
   | mk bb cl h1 h2 h3 h4 =>
     have hfl := flat_len h4
     simp at hx
     simp [aBuiltin,aAppend,hT,hx,hsq,h2,hfl]
     rw [putCells_eq _ _ _ (by rw [hfl]; simp)]
     simp
     exact set_same h2
 have hdl : 0 < ds.length := List.length_pos_iff.2 hd
 have hfd := flat_len hc
 cases h with
 | nil =>
   refine ⟨.slice (some ⟨K.length,0,some (ds.length * z)⟩) ds.length ds.length,K ++ [.cells ds.flatten T],?_,?_,fun b o hb ho => get_more ho,by simp,fun H p _ => p.more _⟩
   · have hb' : ds.length * by_ ≤ 140737488355328 := by simpa using hb
     have hn' : ds.length ≤ 9223372036854775807 := by simpa using hn
     have hne : ¬ ds.length = 0 := by omega
     simp only [aBuiltin,aAppend,hT,hx,hsq,if_true,hne,if_false,hb',hn',and_self,hfd]
   · have := Gro.mk (K := K ++ [.cells ds.flatten T]) (lo := lo) (z := z) (T := T) K.length ds hlo (by simp) hd hc
     simpa using this
 | mk bb cl h1 h2 h3 h4 =>
   have hfl := flat_len h4
   have hlt := (List.getElem?_eq_some_iff.1 h2).1
   refine ⟨.slice (some ⟨bb,0,some ((cl.length + ds.length) * z)⟩) (cl.length + ds.length) (cl.length + ds.length),K.set bb (.cells (cl ++ ds).flatten T),?_,?_,fun b o hb ho => by rw [List.getElem?_set_ne (by omega)]; exact ho,by simp,fun H p hH => p.set (by omega)⟩
   · have e1 : cl.length * z = cl.flatten.length := hfl.symm
     have e2 : ¬ cl.length + ds.length ≤ cl.length := by omega
     simp only [aBuiltin,aAppend,hT,hx,hsq,if_true,h2,hfl,Nat.zero_add,Nat.le_refl,and_self,e2,if_false,hb,hn]
     have e3 : (cl.flatten.take (cl.length * z)) = cl.flatten := List.take_of_length_le (by omega)
     rw [e3]
     simp
   · have := Gro.mk (K := K.set bb (.cells (cl ++ ds).flatten T)) (lo := lo) (z := z) (T := T) bb (cl ++ ds) h1 (List.getElem?_set_self hlt) (by simp [h3]) (by
      intro x hx
      rw [List.mem_append] at hx
      rcases hx with hx | hx
      · exact h4 x hx
      · exact hc x hx)
     simpa using this
theorem acalls_bool {P : Program} (hm : P.follows .mixedOrders = true) {f fn args H} {Q : Prop} (hf : P.funcs[f]? = some fn) (hn : notNG fn = true)
  (hr : ∀ k : Value → AHeap → Prop,(∀ K,Pre H K → k (.bool true) K) → (Q → ∀ K,Pre H K → k (.bool false) K) → kbody P fn args H k) : ∃ b,(b = false → Q) ∧ ACalls P f args H (.bool b) H := by
 obtain ⟨v,H',⟨b,rfl,hq,X,rfl⟩,h⟩ := acalls_ex hm hf hn (hr (fun u H2 => ∃ b,u = .bool b ∧ (b = false → Q) ∧ Pre H H2) (fun K p => ⟨true,rfl,by simp,p⟩) fun q K p => ⟨false,rfl,fun _ => q,p⟩)
 exact ⟨b,hq,h.trim rfl⟩
def Rul.small (r : Rul) : Prop := r.mutes.length ≤ 100 ∧ r.nodes.length ≤ 100 ∧ ∀ n ∈ r.nodes,n.sel.length ≤ 50
section
variable {r : Rul} {H : AHeap} {nv mv : Value} {b : Nat} {k : Value → AHeap → Prop}
end
end Go.Vi
namespace Go.Vi
open Go Go.Proofs Go.Proofs.Try
theorem xel1 : aElem prog 48 = some (52,3,40) := by kernel_rfl
theorem xel2 : isSeq prog 48 = true := by kernel_rfl
theorem sel1 : aElem prog 23 = some (9,1,16) := by kernel_rfl
theorem sel2 : isSeq prog 23 = true := by kernel_rfl
theorem Gro.wk {K lo lo' z T v cl} (h : Gro K lo z T v cl) (hl : lo' ≤ lo) : Gro K lo' z T v cl := by
 cases h with
 | nil => exact .nil
 | mk bb cl h1 h2 h3 h4 => exact .mk bb cl (Nat.le_trans hl h1) h2 h3 h4
def KTy (T : TypeId) (K K' : AHeap) : Prop := ∀ (b : Nat) o,K[b]? = some o → (∀ cs,o ≠ .cells cs T) → K'[b]? = some o
theorem Gro.kt {T' : TypeId} {K K' lo z T v cl} (h : Gro K lo z T v cl) (hk : KTy T' K K') (hT : T ≠ T') : Gro K' lo z T v cl := by
 cases h with
 | nil => exact .nil
 | mk bb cl h1 h2 h3 h4 => exact .mk bb cl h1 (hk _ _ h2 fun cs e => hT (by cases e; rfl)) h3 h4
theorem Gro.pushK {P : Program} {K : AHeap} {lo z by_ : Nat} {T Ts : TypeId} {v x : Value} {cl : List (List Value)} {c : List Value} (h : Gro K lo z T v cl) (hT : aElem P Ts = some (T,z,by_)) (hsq : isSeq P Ts = true) (hc : c.length = z) (hlo : lo ≤ K.length)
  (hx : aSrc K z x = some (1,c)) (hb : (cl.length + 1) * by_ ≤ 140737488355328) (hn : cl.length + 1 ≤ 9223372036854775807) :
  ∃ v' K',aBuiltin P K .append #[Ts,Ts] [v,x] = some (v',K') ∧ Gro K' lo z T v' (cl ++ [c]) ∧ (∀ b o,b < lo → K[b]? = some o → K'[b]? = some o) ∧ K.length ≤ K'.length ∧ (∀ H,Pre H K → H.length ≤ lo → Pre H K') ∧ KTy T K K' := by
 obtain ⟨v',K',h1,h2,h3,h4,h5⟩ := h.push hT hsq hc hlo hx hb hn
 refine ⟨v',K',h1,h2,h3,h4,h5,fun b o hbo hne => ?_⟩
 cases h with
 | nil =>
   have hb' : by_ ≤ 140737488355328 := by simpa using hb
   simp [aBuiltin,aAppend,hT,hx,hsq,hb',hc] at h1
   rw [← h1.2]; exact get_more hbo
 | mk bb cl g1 g2 g3 g4 =>
   have hfl := flat_len g4
   have e2 : ¬ cl.length + 1 ≤ cl.length := by omega
   simp only [aBuiltin,aAppend,hT,hx,hsq,if_true,g2,hfl,Nat.zero_add,Nat.le_refl,and_self,e2,if_false,hb,hn,Option.some.injEq,Prod.mk.injEq] at h1
   rw [← h1.2,List.getElem?_set_ne (by rintro rfl; rw [hbo] at g2; cases g2; exact hne _ rfl)]
   exact hbo
def NRow (K : AHeap) (lo : Nat) (v : Value) (ns : List Nod) : Prop := ∃ cl,Gro K lo 8 50 v cl ∧ cl.length = ns.length ∧ ∀ (i : Nat) n,ns[i]? = some n → ∃ sv,cl[i]? = some (n.cells sv) ∧ Gro K lo 3 52 sv (n.sel.map Mat.cells) ∧ n.sel.length < 2 ^ 63
theorem NRow.fr {K K' lo v ns} (h : NRow K lo v ns) (hf : ∀ (b : Nat) o,lo ≤ b → K[b]? = some o → K'[b]? = some o) : NRow K' lo v ns := by
 obtain ⟨cl,h1,h2,h3⟩ := h
 refine ⟨cl,h1.fr hf,h2,fun i n hi => ?_⟩
 obtain ⟨sv,q1,q2,q3⟩ := h3 i n hi
 exact ⟨sv,q1,q2.fr hf,q3⟩
theorem NRow.wk {K lo lo' v ns} (h : NRow K lo v ns) (hl : lo' ≤ lo) : NRow K lo' v ns := by
 obtain ⟨cl,h1,h2,h3⟩ := h
 refine ⟨cl,h1.wk hl,h2,fun i n hi => ?_⟩
 obtain ⟨sv,q1,q2,q3⟩ := h3 i n hi
 exact ⟨sv,q1,q2.wk hl,q3⟩
theorem NRow.at {K lo v ns} (h : NRow K lo v ns) : NodesAt K v ns := by
 obtain ⟨cl,h1,h2,h3⟩ := h
 refine ⟨cl,h1.arr,h2,fun i n hi => ?_⟩
 obtain ⟨sv,q1,q2,q3⟩ := h3 i n hi
 exact ⟨sv,q1,q2.arr,q3⟩
theorem NRow.one {K lo v ns} (h : NRow K lo v ns) : v.oneCell' = true := by obtain ⟨cl,h1,_⟩ := h; exact h1.one
theorem NRow.cells {K lo v ns} (h : NRow K lo v ns) : v.cells = #[v] := by obtain ⟨cl,h1,_⟩ := h; exact h1.cells
theorem NRow.stor {K lo v ns} (h : NRow K lo v ns) : storable v = true := by obtain ⟨cl,h1,_⟩ := h; exact h1.stor
theorem get_snoc {α : Type} {l : List α} {a b : α} {i : Nat} (h : (l ++ [a])[i]? = some b) : (i < l.length ∧ l[i]? = some b) ∨ (i = l.length ∧ b = a) := by
 rcases Nat.lt_or_ge i l.length with hlt | hge
 · rw [List.getElem?_append_left hlt] at h; exact .inl ⟨hlt,h⟩
 · rw [List.getElem?_append_right hge] at h
   have h0 : i - l.length = 0 := by
    have := (List.getElem?_eq_some_iff.1 h).1; simp at this; omega
   rw [h0] at h
   simp at h
   exact .inr ⟨by omega,h.symm⟩
theorem NRow.push {K lo v ns} (h : NRow K lo v ns) (n : Nod) (sv : Value) (hsv : Gro K lo 3 52 sv (n.sel.map Mat.cells)) (hsl : n.sel.length < 2 ^ 63) (hns : ns.length + 1 ≤ 2 ^ 30) (hlo : lo ≤ K.length) :
  ∃ v' K2, aBuiltin prog (K ++ [AObj.cells (n.cells sv) 50]) .append #[22, 22] [v, .slice (some ⟨K.length, 0, some 8⟩) 1 1] = some (v', K2) ∧
    NRow K2 lo v' (ns ++ [n]) ∧ (∀ H,Pre H K → H.length ≤ lo → Pre H K2) ∧ K.length ≤ K2.length := by
 obtain ⟨cl,hg,hcl,hall⟩ := h
 obtain ⟨v',K2,q1,q2,q3,q4,q5,q6⟩ := Gro.pushK (P := prog) (Ts := 22) (by_ := 72) (x := .slice (some ⟨K.length,0,some 8⟩) 1 1) (c := n.cells sv) (hg.app (X := [AObj.cells (n.cells sv) 50])) nel1 nel2 (by rfl) (by simp; omega) (by simp [aSrc,Nod.cells]) (by omega) (by omega)
 have hmat : ∀ {sv ms},Gro K lo 3 52 sv ms → Gro K2 lo 3 52 sv ms := fun hg => hg.app.kt q6 (by decide)
 refine ⟨v',K2,q1,⟨cl ++ [n.cells sv],q2,by simp [hcl],fun i m hi => ?_⟩,fun H p hH => q5 H (p.more _) hH,by simp at q4; omega⟩
 rcases get_snoc hi with ⟨hlt,hi⟩ | ⟨rfl,rfl⟩
 · obtain ⟨sv',e1,e2,e3⟩ := hall i m hi
   exact ⟨sv',by rw [List.getElem?_append_left (by omega)]; exact e1,hmat e2,e3⟩
 · exact ⟨sv,by rw [List.getElem?_append_right (by omega),hcl]; simp,hmat hsv,hsl⟩
theorem nod_lit8 {K : AHeap} (n : Nod) {sv : Value} (hs : sv.oneCell' = true) : sliceLit prog K 22 1 [(0,.agg (n.cells sv).toArray)] (.slice (some ⟨K.length,0,some 8⟩) 1 1) (K ++ [.cells (n.cells sv) 50]) :=
 sliceLitA (c := n.cells sv) (tbs22 K 1 _) (by rfl) (by simp [Nod.cells,hs]) (by simp)
theorem c_copyMats {H : AHeap} {v : Value} {ms : List Mat} (h : MatsAt H v ms) (hl : ms.length ≤ 50) : ∃ v' K',ACalls prog 40 [v] H v' K' ∧ Pre H K' ∧ Gro K' H.length 3 52 v' (ms.map Mat.cells) := by
 obtain ⟨v1,K1,p1,p2,p3,p4,p5⟩ := Gro.pushN (P := prog) (K := H) (lo := H.length) (v := .slice none 0 0) (cl := []) (ds := ms.map Mat.cells) (by_ := 40) .nil xel1 xel2 (Arr.all_len h) (Nat.le_refl _) (Arr.src h) (by simp; omega) (by simp; omega)
 refine ⟨v1,K1,acalls_of MixT func40 (by decide) ?_,p5 H (Pre.refl _) (Nat.le_refl _),by simpa using p2⟩
 rw [d40,p1]
 simp
theorem copyN_loop {ns : List Nod} {H : AHeap} {v : Value} {k : Value → AHeap → Prop} (hn0 : NodesAt H v ns) (hnl : ns.length ≤ 100) (hs : ∀ n ∈ ns,n.sel.length ≤ 50) (hk : ∀ u K,Pre H K → NRow K H.length u ns → k u K) :
  ∀ (l : List Nod) (i : Nat) (K : AHeap) (out : Value) (s1 s2 s5 s6 s7 s8 s9 s10 s11 s12 s13 s14 s15 s16 s17 s18 s19 s20 s21 s22 s23 s24 s25 s26 s27 : Value), ns.drop i = l → i ≤ ns.length → Pre H K → NRow K H.length out (ns.take i) →
    L19x0 (l.length + 1) k [v,s1,s2,out,i64 i,s5,s6,s7,s8,s9,s10,s11,s12,s13,s14,s15,s16,s17,s18,s19,s20,s21,s22,s23,s24,s25,s26,s27] K := by
 intro l
 induction l with
 | nil =>
   intro i K out s1 s2 s5 s6 s7 s8 s9 s10 s11 s12 s13 s14 s15 s16 s17 s18 s19 s20 s21 s22 s23 s24 s25 s26 s27 hd hi hp hr
   have hle : ns.length ≤ i := by simpa using hd
   have hl := (hn0.pre hp).len K
   rw [List.length_nil,L19x0q]
   have : ¬ i < ns.length := by omega
   rw [List.take_of_length_le hle] at hr
   simp [hl,this]
   exact hk _ _ hp hr
 | cons n l ih =>
   intro i K out s1 s2 s5 s6 s7 s8 s9 s10 s11 s12 s13 s14 s15 s16 s17 s18 s19 s20 s21 s22 s23 s24 s25 s26 s27 hd hi hp hr
   have hb : ns[i]? = some n := by rw [← List.head?_drop,hd]; rfl
   have hlt : i < ns.length := (List.getElem?_eq_some_iff.1 hb).1
   have hl := (hn0.pre hp).len K
   obtain ⟨cl,ha,hcl,hc⟩ := hn0.pre hp
   obtain ⟨sv,hsv,hm,hml⟩ := hc _ _ hb
   obtain ⟨p,hp1,hp2⟩ := ha.load (P := prog) (T := 22) (te := 50) (i := i) (e := n.cells sv) (by simp) (by simp) (by simp) hsv
   have hone := hm.one
   have hpl : H.length ≤ K.length := by obtain ⟨X,rfl⟩ := hp; simp
   rw [List.length_cons,L19x0q]
   have hhl := fun X : AHeap => (ha.pre (.app K X)).field (P := prog) (T := 22) (te := 50) (ft := 48) (f := 2) (d := 2) (i := i) (x := sv) (by simp) (by simp) (by simp) (by simp) (by simp) hsv rfl
   obtain ⟨q1,q2,f1,f2,f3⟩ := hhl [.cells (n.cells sv) 50]
   simp only [Nod.cells] at f1 f2 f3
   simp [hl,hlt,hp1,hp2,Nod.cells,hone,f1,f2,f3]
   obtain ⟨v',K',g1,g2,g3⟩ := c_copyMats (hm.pre (.app K [.cells (n.cells sv) 50])) (hs n (List.mem_of_getElem? hb))
   simp only [Nod.cells] at g1 g2 g3
   refine bndC_of g1 ?_
   have hcc : hcells K' K.length = some (n.cells sv) := g2.hcells (by simp [Nod.cells])
   have hkk := g2.get (b := K.length) (o := .cells (n.cells sv) 50) (by simp [Nod.cells])
   have hl8 : hlen K' K.length = some 8 := by rw [hcells_len hcc]; rfl
   have hKl : K.length < K'.length := (List.getElem?_eq_some_iff.1 hkk).1
   have v1 := g3.one
   have v2 := g3.cells
   have v3 := g3.stor
   simp [hl8,hkk,v2,v3,Nod.cells]
   generalize hM : K'.set K.length (.cells [byt n.kind,byt n.agg,v',i64 n.window,byt n.cmp,i64 n.value,i64 n.left,i64 n.right] 50) = M
   have hMc : hcells M K.length = some (n.cells v') := by
    rw [← hM,hcells_eq,List.getElem?_set_self hKl]; rfl
   have hMp : Pre H M := by
    rw [← hM]; exact ((hp.more _).trans g2).set hpl
   have hMl : K.length < M.length := by rw [← hM]; simpa using hKl
   have hkeep : ∀ (b : Nat) o,K[b]? = some o → M[b]? = some o := fun b o ho => by
    have hbl : b < K.length := (List.getElem?_eq_some_iff.1 ho).1
    rw [← hM,List.getElem?_set_ne (by omega)]
    exact g2.get (get_more ho)
   simp [hMc,Nod.cells]
   refine bndL_lit (nod_lit8 n v1) ?_
   have hg3 : Gro M H.length 3 52 v' (n.sel.map Mat.cells) := by
    refine (g3.fr fun b o hb ho => ?_).wk (by simp; omega)
    simp at hb
    rw [← hM,List.getElem?_set_ne (by omega)]
    exact ho
   obtain ⟨v2,K2,r1,r2,r3,r4⟩ := NRow.push (hr.fr fun b o _ ho => hkeep b o ho) n v' hg3 hml (by simp; omega) (by omega)
   dsimp only
   rw [r1]
   simp [show i + 1 < 2 ^ 63 by omega]
   refine ih (i + 1) K2 v2 _ _ _ _ _ _ _ _ _ _ _ _ _ _ _ _ _ _ _ _ _ _ _ _ _ (by rw [← List.drop_drop,hd]; rfl) hlt (r3 H hMp (Nat.le_refl _)) ?_
   rw [List.take_add_one,hb]
   exact r2
theorem c_copyNodes {H : AHeap} {v : Value} {ns : List Nod} (h : NodesAt H v ns) (hnl : ns.length ≤ 100) (hs : ∀ n ∈ ns,n.sel.length ≤ 50) : ∃ v' K',ACalls prog 19 [v] H v' K' ∧ Pre H K' ∧ NRow K' H.length v' ns := by
 obtain ⟨v',K',⟨h1,h2⟩,h3⟩ : ∃ v' K',(Pre H K' ∧ NRow K' H.length v' ns) ∧ ACalls prog 19 [v] H v' K' := by
  refine acalls_ex MixT func19 (by decide) ?_
  rw [d19]
  exact ⟨ns.length + 1,copyN_loop h hnl hs (fun u K p q => ⟨p,q⟩) ns 0 H (.slice none 0 0) _ _ _ _ _ _ _ _ _ _ _ _ _ _ _ _ _ _ _ _ _ _ _ _ _ rfl (by omega) (.refl _) ⟨[],.nil,by simp,fun i n hi => by simp at hi⟩⟩
 exact ⟨v',K',h3,h1,h2⟩
end Go.Vi
namespace Go.Vi
open Go Go.Proofs Go.Proofs.Try
theorem cellF {M : AHeap} {b : Nat} {cs : List Value} {T : TypeId} (h : M[b]? = some (.cells cs T)) : hcells M b = some cs ∧ hlen M b = some cs.length := by
 have : hcells M b = some cs := by rw [hcells_eq,h]; rfl
 exact ⟨this,hcells_len this⟩
theorem c_copyRule {H : AHeap} {r : Rul} {nv mv : Value} (hn : NodesAt H nv r.nodes) (hm : Arr H 1 mv (strCells r.mutes)) (hs : r.small) :
  ∃ nv' mv' K',ACalls prog 6 [.agg (r.cells nv mv).toArray] H (.agg (r.cells nv' mv').toArray) K' ∧ Pre H K' ∧ NRow K' H.length nv' r.nodes ∧ Gro K' H.length 1 9 mv' (strCells r.mutes) := by
 obtain ⟨v,K',⟨nv',mv',rfl,h1,h2,h3⟩,h4⟩ : ∃ v K',(∃ nv' mv',v = .agg (r.cells nv' mv').toArray ∧ Pre H K' ∧ NRow K' H.length nv' r.nodes ∧ Gro K' H.length 1 9 mv' (strCells r.mutes)) ∧ ACalls prog 6 [.agg (r.cells nv mv).toArray] H v K' := by
  refine acalls_ex MixT func6 (by decide) ?_
  generalize hk : (fun (v : Value) (K' : AHeap) => ∃ nv' mv',v = .agg (r.cells nv' mv').toArray ∧ Pre H K' ∧ NRow K' H.length nv' r.nodes ∧ Gro K' H.length 1 9 mv' (strCells r.mutes)) = k
  rw [d6]
  obtain ⟨s1,s2,s3⟩ := hs
  have h1 : nv.oneCell' = true := by obtain ⟨_,h,_⟩ := hn; exact h.one
  have h2 := hm.one
  simp [aNew_agg,Rul.cells,h1,h2]
  generalize hC0 : [str r.name,str r.byL,nv,i64 r.forM,i64 r.every,i64 r.repeatM,mv,str r.route] = C0
  generalize hC1 : [Value.string { data := #[] },Value.string { data := #[] },Value.slice none 0 0,Value.int IntKind.i64 0,Value.int IntKind.i64 0,Value.int IntKind.i64 0,Value.slice none 0 0,Value.string { data := #[] }] = C1
  obtain ⟨v6,K1,g1,g2,g3⟩ := c_copyNodes (hn.pre (.app H [.cells C0 25,.cells C1 25])) s2 s3
  refine bndC_of g1 ?_
  have e0 : K1[H.length]? = some (.cells C0 25) := g2.get (by simp)
  have e1 : K1[H.length + 1]? = some (.cells C1 25) := g2.get (by simp)
  have l0 : hlen K1 H.length = some 8 := by rw [(cellF e0).2,← hC0]; rfl
  have hp1 : Pre H K1 := (Pre.app _ _).trans g2
  have hl1 : H.length + 1 < K1.length := (List.getElem?_eq_some_iff.1 e1).1
  have v1 := g3.one
  have v2 := g3.cells
  have v3 := g3.stor
  simp [l0,e0,v2,v3]
  subst hC0
  dsimp only [List.set_cons_succ,List.set_cons_zero]
  have hp2 : Pre H (K1.set H.length (.cells [str r.name,str r.byL,v6,i64 r.forM,i64 r.every,i64 r.repeatM,mv,str r.route] 25)) := hp1.set (Nat.le_refl _)
  have e2 : (K1.set H.length (.cells [str r.name,str r.byL,v6,i64 r.forM,i64 r.every,i64 r.repeatM,mv,str r.route] 25))[H.length]? = some (.cells [str r.name,str r.byL,v6,i64 r.forM,i64 r.every,i64 r.repeatM,mv,str r.route] 25) := List.getElem?_set_self (by omega)
  have e3 : (K1.set H.length (.cells [str r.name,str r.byL,v6,i64 r.forM,i64 r.every,i64 r.repeatM,mv,str r.route] 25))[H.length + 1]? = some (.cells C1 25) := by rw [List.getElem?_set_ne (by omega)]; exact e1
  have g4 : NRow (K1.set H.length (.cells [str r.name,str r.byL,v6,i64 r.forM,i64 r.every,i64 r.repeatM,mv,str r.route] 25)) (H.length + 2) v6 r.nodes := by
   refine (g3.fr fun b o hb ho => ?_).wk (by simp)
   simp at hb
   rw [List.getElem?_set_ne (by omega)]; exact ho
  generalize K1.set H.length (.cells [str r.name,str r.byL,v6,i64 r.forM,i64 r.every,i64 r.repeatM,mv,str r.route] 25) = K2 at hp2 e2 e3 g4 ⊢
  obtain ⟨c2,l2⟩ := cellF e2
  have hm2 := hm.pre hp2
  have hl2 : H.length + 1 < K2.length := (List.getElem?_eq_some_iff.1 e3).1
  simp [c2,l2]
  obtain ⟨v11,K3,p1,p2,p3,p4,p5⟩ := Gro.pushN (P := prog) (K := K2) (lo := K2.length) (v := .slice none 0 0) (cl := []) (ds := strCells r.mutes) (by_ := 16) .nil sel1 sel2 hm2.all_len (Nat.le_refl _) hm2.src (by simp [strCells]; omega) (by simp [strCells]; omega)
  rw [p1]
  simp only [bndE_some]
  have hp3 : Pre H K3 := hp2.trans (p5 K2 (Pre.refl _) (Nat.le_refl _))
  have e4 := p3 _ _ (by omega) e2
  have e5 := p3 _ _ (by omega) e3
  obtain ⟨c4,l4⟩ := cellF e4
  have w1 := p2.one
  have w2 := p2.cells
  have w3 := p2.stor
  simp [l4,e4,w2,w3]
  have hp4 : Pre H (K3.set H.length (.cells [str r.name,str r.byL,v6,i64 r.forM,i64 r.every,i64 r.repeatM,v11,str r.route] 25)) := hp3.set (Nat.le_refl _)
  have e6 : (K3.set H.length (.cells [str r.name,str r.byL,v6,i64 r.forM,i64 r.every,i64 r.repeatM,v11,str r.route] 25))[H.length]? = some (.cells [str r.name,str r.byL,v6,i64 r.forM,i64 r.every,i64 r.repeatM,v11,str r.route] 25) := List.getElem?_set_self (by omega)
  have e7 : (K3.set H.length (.cells [str r.name,str r.byL,v6,i64 r.forM,i64 r.every,i64 r.repeatM,v11,str r.route] 25))[H.length + 1]? = some (.cells C1 25) := by rw [List.getElem?_set_ne (by omega)]; exact e5
  have hl3 : H.length + 1 < (K3.set H.length (.cells [str r.name,str r.byL,v6,i64 r.forM,i64 r.every,i64 r.repeatM,v11,str r.route] 25)).length := by simp; omega
  have g5 : NRow (K3.set H.length (.cells [str r.name,str r.byL,v6,i64 r.forM,i64 r.every,i64 r.repeatM,v11,str r.route] 25)) (H.length + 2) v6 r.nodes := by
   refine g4.fr fun b o hb ho => ?_
   rw [List.getElem?_set_ne (by omega)]; exact p3 _ _ (List.getElem?_eq_some_iff.1 ho).1 ho
  have p6 : Gro (K3.set H.length (.cells [str r.name,str r.byL,v6,i64 r.forM,i64 r.every,i64 r.repeatM,v11,str r.route] 25)) (H.length + 2) 1 9 v11 (strCells r.mutes) := (p2.wk (by omega)).set (by omega)
  generalize K3.set H.length (.cells [str r.name,str r.byL,v6,i64 r.forM,i64 r.every,i64 r.repeatM,v11,str r.route] 25) = K4 at hp4 e6 e7 hl3 g5 p6 ⊢
  obtain ⟨c6,l6⟩ := cellF e6
  have l1 : C1.length = 8 := by rw [← hC1]; rfl
  simp [c6,e7,l1,w1,v1]
  have hp5 : Pre H (K4.set (H.length + 1) (.cells [str r.name,str r.byL,v6,i64 r.forM,i64 r.every,i64 r.repeatM,v11,str r.route] 25)) := hp4.set (by omega)
  have e8 : (K4.set (H.length + 1) (.cells [str r.name,str r.byL,v6,i64 r.forM,i64 r.every,i64 r.repeatM,v11,str r.route] 25))[H.length + 1]? = some (.cells [str r.name,str r.byL,v6,i64 r.forM,i64 r.every,i64 r.repeatM,v11,str r.route] 25) := List.getElem?_set_self hl3
  obtain ⟨c8,l8⟩ := cellF e8
  simp [c8]
  rw [← hk]
  exact ⟨v6,v11,rfl,hp5,(g5.fr fun b o hb ho => by rw [List.getElem?_set_ne (by omega)]; exact ho).wk (by omega),(p6.set (by omega)).wk (by omega)⟩
 exact ⟨nv',mv',K',h4,h1,h2,h3⟩
end Go.Vi
namespace Go.Vi
open Go Go.Proofs
theorem once_fold {α : Type} [DecidableEq α] : ∀ (l ks : List α),ks.Nodup → (l.foldl addKey ks).length ≤ ks.length + l.length ∧ ((l.foldl addKey ks).length = ks.length + l.length ↔ (ks ++ l).Nodup) := by
 intro l
 induction l with
 | nil => intro ks h; simpa using h
 | cons x l ih =>
   intro ks h
   rw [List.foldl_cons]
   by_cases hx : x ∈ ks
   · have he : addKey ks x = ks := by simp [addKey,hx]
     rw [he]
     obtain ⟨h1,h2⟩ := ih ks h
     refine ⟨by simp; omega,⟨fun q => by simp at q; omega,fun q => ?_⟩⟩
     rw [List.nodup_append] at q
     exact absurd rfl (q.2.2 x hx x (by simp))
   · have he : addKey ks x = ks ++ [x] := by simp [addKey,hx]
     rw [he]
     have hn : (ks ++ [x]).Nodup := by
      rw [List.nodup_append]
      exact ⟨h,by simp,fun a ha b hb => by simp at hb; subst hb; rintro rfl; exact hx ha⟩
     obtain ⟨h1,h2⟩ := ih _ hn
     simp at h1 h2 ⊢
     refine ⟨by omega,?_⟩
     rw [← h2]
     constructor <;> intro q <;> omega
theorem onceB_iff {α : Type} [DecidableEq α] (l : List α) : onceB l = true ↔ l.Nodup := by
 obtain ⟨h1,h2⟩ := once_fold l [] (by simp)
 simp at h1 h2
 unfold onceB keysOf
 rw [← h2]
 simp
 omega
end Go.Vi
namespace Go.Vi
open Go Go.Proofs Go.Proofs.Try
structure Rul.tame (r : Rul) : Prop where
 name : r.name.length ≤ 5000
 byL : r.byL.length ≤ 5000
 route : r.route.length ≤ 5000
 muts : ∀ s ∈ r.mutes,s.length ≤ 5000
 mlen : r.mutes.length ≤ 100
 nlen : r.nodes.length ≤ 100
 nods : ∀ n ∈ r.nodes,n.tame
 win : ∀ n ∈ r.nodes,n.window < 2 ^ 63
theorem Rul.may_iff (r : Rul) : r.mayB = true ↔ mayName r.name = true ∧ (r.byL = [] ∨ mayName r.byL = true) ∧ mayName r.route = true ∧ r.route ≠ [109,101,116,97] ∧ (0 ≤ r.forM ∧ r.forM ≤ 1000) ∧ (1 ≤ r.every ∧ r.every ≤ 100) ∧ (1 ≤ r.repeatM ∧ r.repeatM ≤ 10000) ∧ r.mutes.length ≤ 4 ∧ (∀ s ∈ r.mutes,mayName s = true) ∧ r.mutes.Nodup ∧ right r.nodes = true := by
 unfold Rul.mayB
 simp only [List.all_cons,List.all_nil,id,Bool.and_true,Bool.and_eq_true,Bool.or_eq_true,decide_eq_true_eq,Bool.not_eq_true',decide_eq_false_iff_not,onceB_iff,List.any_eq_false,ge_iff_le]
 constructor
 · rintro ⟨h1,h2,h3,h4,h5,h6,h7,h8,h9,h10,h11⟩
   exact ⟨h1,h2,h3,h4,h5,h6,h7,by omega,fun s hs => by have := h9 s hs; simpa using this,h10,h11⟩
 · rintro ⟨h1,h2,h3,h4,h5,h6,h7,h8,h9,h10,h11⟩
   exact ⟨h1,h2,h3,h4,h5,h6,h7,by omega,fun s hs => by have := h9 s hs; simpa using this,h10,h11⟩
@[simp] theorem bndG_un {want : Bool} {H : AHeap} {e q : QH} : @bndG undef want H e q = q.f undef H := by
 apply propext
 constructor
 · rintro ⟨v,H',h,k⟩
   obtain ⟨rfl,rfl⟩ : v = undef ∧ H' = H := h
   exact k
 · intro k; exact ⟨undef,H,⟨rfl,rfl⟩,k⟩
section
variable {H : AHeap} {r : Rul} {nv mv : Value} {b : Nat} {k : Value → AHeap → Prop}
theorem strs_get {K : AHeap} {v : Value} {l : List (List UInt8)} {i : Nat} {s : List UInt8} (ha : Arr K 1 v (strCells l)) (hi : l[i]? = some s) : ∃ p,aIndexAddr prog K 23 v (i64 i) = some p ∧ aLoad prog K 9 p = some (str s) :=
 ha.load1 (P := prog) (T := 23) (te := 9) (x := str s) (by simp) (by simp) (by simp) (by simp [strCells,hi])
theorem may_x1 (hm0 : Arr H 1 mv (strCells r.mutes)) (hml : r.mutes.length ≤ 4) {i : Nat} {s : List UInt8} (hi : r.mutes[i]? = some s) (hc : hcells H b = some (r.cells nv mv)) {n0 : Nat}
  (bad : r.mayB = false → k (.bool false) H) (hk : (∀ j t,j < i → r.mutes[j]? = some t → s ≠ t) → ∀ (s0 s2 s4 s5 s6 s7 s8 s9 s10 s11 s12 s13 s14 s15 s16 s17 s18 s19 s20 s21 s22 s23 s24 s25 s26 s27 s28 s29 s30 s31 s32 s33 s34 s35 s36 s37 s38 s39 s40 s41 s42 s43 s44 s45 s46 s47 s48 s49 s50 s51 s52 s53 s54 s55 s56 s57 s58 s59 s60 s61 s62 s63 s64 s65 s66 s67 s68 s69 s70 s71 s72 s73 s74 s75 s76 s77 s78 s79 s80 s81 s82 s83 s84 s85 s86 s87 s88 s89 s90 s91 s92 s93 s94 s95 s96 s97 : Value),L29x0 n0 k [s0,.pointer (some ⟨b,0,some 8⟩),s2,i64 ((i + 1 : Nat) : Int),s4,s5,s6,s7,s8,s9,s10,s11,s12,s13,s14,s15,s16,s17,s18,s19,s20,s21,s22,s23,s24,s25,s26,s27,s28,s29,s30,s31,s32,s33,s34,s35,s36,s37,s38,s39,s40,s41,s42,s43,s44,s45,s46,s47,s48,s49,s50,s51,s52,s53,s54,s55,s56,s57,s58,s59,s60,s61,s62,s63,s64,s65,s66,s67,s68,s69,s70,s71,s72,s73,s74,s75,s76,s77,s78,s79,s80,s81,s82,s83,s84,s85,s86,s87,s88,s89,s90,s91,s92,s93,s94,s95,s96,s97] H) :
  ∀ (d j : Nat) (s0 s2 s5 s6 s7 s8 s9 s10 s11 s12 s13 s14 s15 s16 s17 s18 s19 s20 s21 s22 s23 s24 s25 s26 s27 s28 s29 s30 s31 s32 s33 s34 s35 s36 s37 s38 s39 s40 s41 s42 s43 s44 s45 s46 s47 s48 s49 s50 s51 s52 s53 s54 s55 s56 s57 s58 s59 s60 s61 s62 s63 s64 s65 s66 s67 s68 s69 s70 s71 s72 s73 s74 s75 s76 s77 s78 s79 s80 s81 s82 s83 s84 s85 s86 s87 s88 s89 s90 s91 s92 s93 s94 s95 s96 s97 : Value),d + j = i → (∀ l t,l < j → r.mutes[l]? = some t → s ≠ t) → L29x1 (d + 1) n0 k [s0,.pointer (some ⟨b,0,some 8⟩),s2,i64 i,i64 j,s5,s6,s7,s8,s9,s10,s11,s12,s13,s14,s15,s16,s17,s18,s19,s20,s21,s22,s23,s24,s25,s26,s27,s28,s29,s30,s31,s32,s33,s34,s35,s36,s37,s38,s39,s40,s41,s42,s43,s44,s45,s46,s47,s48,s49,s50,s51,s52,s53,s54,s55,s56,s57,s58,s59,s60,s61,s62,s63,s64,s65,s66,s67,s68,s69,s70,s71,s72,s73,s74,s75,s76,s77,s78,s79,s80,s81,s82,s83,s84,s85,s86,s87,s88,s89,s90,s91,s92,s93,s94,s95,s96,s97] H := by
 have hl8 : Vi.hlen H b = some 8 := by rw [hcells_len hc]; rfl
 simp only [Rul.cells] at hc
 have hil : i < r.mutes.length := (List.getElem?_eq_some_iff.1 hi).1
 intro d
 induction d with
 | zero =>
   intro j s0 s2 s5 s6 s7 s8 s9 s10 s11 s12 s13 s14 s15 s16 s17 s18 s19 s20 s21 s22 s23 s24 s25 s26 s27 s28 s29 s30 s31 s32 s33 s34 s35 s36 s37 s38 s39 s40 s41 s42 s43 s44 s45 s46 s47 s48 s49 s50 s51 s52 s53 s54 s55 s56 s57 s58 s59 s60 s61 s62 s63 s64 s65 s66 s67 s68 s69 s70 s71 s72 s73 s74 s75 s76 s77 s78 s79 s80 s81 s82 s83 s84 s85 s86 s87 s88 s89 s90 s91 s92 s93 s94 s95 s96 s97 hj hne
   rw [L29x1q]
   have : ¬ j < i := by omega
   have hji : j = i := by omega
   subst hji
   simp [show j + 1 < 2 ^ 63 by omega]
   exact hk hne _ _ _ _ _ _ _ _ _ _ _ _ _ _ _ _ _ _ _ _ _ _ _ _ _ _ _ _ _ _ _ _ _ _ _ _ _ _ _ _ _ _ _ _ _ _ _ _ _ _ _ _ _ _ _ _ _ _ _ _ _ _ _ _ _ _ _ _ _ _ _ _ _ _ _ _ _ _ _ _ _ _ _ _ _ _ _ _ _ _ _ _ _ _ _ _
 | succ d ih =>
   intro j s0 s2 s5 s6 s7 s8 s9 s10 s11 s12 s13 s14 s15 s16 s17 s18 s19 s20 s21 s22 s23 s24 s25 s26 s27 s28 s29 s30 s31 s32 s33 s34 s35 s36 s37 s38 s39 s40 s41 s42 s43 s44 s45 s46 s47 s48 s49 s50 s51 s52 s53 s54 s55 s56 s57 s58 s59 s60 s61 s62 s63 s64 s65 s66 s67 s68 s69 s70 s71 s72 s73 s74 s75 s76 s77 s78 s79 s80 s81 s82 s83 s84 s85 s86 s87 s88 s89 s90 s91 s92 s93 s94 s95 s96 s97 hj hne
   have hlt : j < i := by omega
   obtain ⟨t,ht⟩ : ∃ t,r.mutes[j]? = some t := ⟨_,List.getElem?_eq_getElem (by omega)⟩
   obtain ⟨p,p1,p2⟩ := strs_get hm0 hi
   obtain ⟨q,q1,q2⟩ := strs_get hm0 ht
   rw [L29x1q]
   by_cases he : s = t
   · subst he
     simp [hlt,hc,hl8,p1,p2,q1,q2]
     refine bad ?_
     rw [Bool.eq_false_iff]
     intro h
     have hnd := ((Rul.may_iff r).1 h).2.2.2.2.2.2.2.2.2.1
     obtain ⟨i1,e1⟩ := List.getElem?_eq_some_iff.1 hi
     obtain ⟨j1,e2⟩ := List.getElem?_eq_some_iff.1 ht
     exact List.pairwise_iff_getElem.1 hnd j i j1 i1 hlt (e2.trans e1.symm)
   · simp [hlt,hc,hl8,p1,p2,q1,q2,he,show j + 1 < 2 ^ 63 by omega]
     refine ih (j + 1) _ _ _ _ _ _ _ _ _ _ _ _ _ _ _ _ _ _ _ _ _ _ _ _ _ _ _ _ _ _ _ _ _ _ _ _ _ _ _ _ _ _ _ _ _ _ _ _ _ _ _ _ _ _ _ _ _ _ _ _ _ _ _ _ _ _ _ _ _ _ _ _ _ _ _ _ _ _ _ _ _ _ _ _ _ _ _ _ _ _ _ _ _ _ _ (by omega) (fun l u hl hu => ?_)
     by_cases e : l = j
     · subst e; rw [ht] at hu; cases hu; exact he
     · exact hne l u (by omega) hu
theorem may_x0 (hm0 : Arr H 1 mv (strCells r.mutes)) (hn0 : NodesAt H nv r.nodes) (ht : r.tame) (hml : r.mutes.length ≤ 4) (hc : hcells H b = some (r.cells nv mv))
  (bad : r.mayB = false → k (.bool false) H) (good : (∀ s ∈ r.mutes,mayName s = true) → r.mutes.Nodup → k (.bool (right r.nodes)) H) :
  ∀ (d i : Nat) (s0 s2 s4 s5 s6 s7 s8 s9 s10 s11 s12 s13 s14 s15 s16 s17 s18 s19 s20 s21 s22 s23 s24 s25 s26 s27 s28 s29 s30 s31 s32 s33 s34 s35 s36 s37 s38 s39 s40 s41 s42 s43 s44 s45 s46 s47 s48 s49 s50 s51 s52 s53 s54 s55 s56 s57 s58 s59 s60 s61 s62 s63 s64 s65 s66 s67 s68 s69 s70 s71 s72 s73 s74 s75 s76 s77 s78 s79 s80 s81 s82 s83 s84 s85 s86 s87 s88 s89 s90 s91 s92 s93 s94 s95 s96 s97 : Value), d + i = r.mutes.length → (∀ j t, j < i → r.mutes[j]? = some t → mayName t = true) → (∀ (j l : Nat) s t, j < i → l < j → r.mutes[j]? = some s → r.mutes[l]? = some t → s ≠ t) →
    L29x0 (d + 1) k [s0,.pointer (some ⟨b,0,some 8⟩),s2,i64 i,s4,s5,s6,s7,s8,s9,s10,s11,s12,s13,s14,s15,s16,s17,s18,s19,s20,s21,s22,s23,s24,s25,s26,s27,s28,s29,s30,s31,s32,s33,s34,s35,s36,s37,s38,s39,s40,s41,s42,s43,s44,s45,s46,s47,s48,s49,s50,s51,s52,s53,s54,s55,s56,s57,s58,s59,s60,s61,s62,s63,s64,s65,s66,s67,s68,s69,s70,s71,s72,s73,s74,s75,s76,s77,s78,s79,s80,s81,s82,s83,s84,s85,s86,s87,s88,s89,s90,s91,s92,s93,s94,s95,s96,s97] H := by
 have hl8 : Vi.hlen H b = some 8 := by rw [hcells_len hc]; rfl
 have hc0 := hc
 simp only [Rul.cells] at hc
 have hlen := Arr.len (P := prog) (T := 23) (e := 9) hm0 (by simp)
 simp [strCells] at hlen
 intro d
 induction d with
 | zero =>
   intro i s0 s2 s4 s5 s6 s7 s8 s9 s10 s11 s12 s13 s14 s15 s16 s17 s18 s19 s20 s21 s22 s23 s24 s25 s26 s27 s28 s29 s30 s31 s32 s33 s34 s35 s36 s37 s38 s39 s40 s41 s42 s43 s44 s45 s46 s47 s48 s49 s50 s51 s52 s53 s54 s55 s56 s57 s58 s59 s60 s61 s62 s63 s64 s65 s66 s67 s68 s69 s70 s71 s72 s73 s74 s75 s76 s77 s78 s79 s80 s81 s82 s83 s84 s85 s86 s87 s88 s89 s90 s91 s92 s93 s94 s95 s96 s97 hi h1 h2
   have hir : i = r.mutes.length := by omega
   subst hir
   rw [L29x0q]
   simp [hc,hl8,hlen]
   refine bndC_of (r_right hn0 (tame_ok ht.nods ht.win) (by have := ht.nlen; omega)) (good (fun s hs => ?_) ?_)
   · obtain ⟨j,hj⟩ := List.getElem?_of_mem hs
     exact h1 j s (List.getElem?_eq_some_iff.1 hj).1 hj
   · rw [List.Nodup,List.pairwise_iff_getElem]
     intro l j hl hj hlj he
     exact h2 j l _ _ hj hlj (List.getElem?_eq_getElem hj) (List.getElem?_eq_getElem hl) he.symm
 | succ d ih =>
   intro i s0 s2 s4 s5 s6 s7 s8 s9 s10 s11 s12 s13 s14 s15 s16 s17 s18 s19 s20 s21 s22 s23 s24 s25 s26 s27 s28 s29 s30 s31 s32 s33 s34 s35 s36 s37 s38 s39 s40 s41 s42 s43 s44 s45 s46 s47 s48 s49 s50 s51 s52 s53 s54 s55 s56 s57 s58 s59 s60 s61 s62 s63 s64 s65 s66 s67 s68 s69 s70 s71 s72 s73 s74 s75 s76 s77 s78 s79 s80 s81 s82 s83 s84 s85 s86 s87 s88 s89 s90 s91 s92 s93 s94 s95 s96 s97 hi h1 h2
   have hlt : i < r.mutes.length := by omega
   obtain ⟨s,hs⟩ : ∃ t,r.mutes[i]? = some t := ⟨_,List.getElem?_eq_getElem hlt⟩
   obtain ⟨p,p1,p2⟩ := strs_get hm0 hs
   have hsl := ht.muts s (List.mem_of_getElem? hs)
   rw [L29x0q]
   simp [hc,hl8,hlen,hlt,p1,p2]
   refine bndC_of (r_mayName H (by omega)) ?_
   cases hms : mayName s with
   | false =>
     simp
     refine bad ?_
     rw [Bool.eq_false_iff]
     intro h
     have := ((Rul.may_iff r).1 h).2.2.2.2.2.2.2.2.1 s (List.mem_of_getElem? hs)
     rw [hms] at this; cases this
   | true =>
     simp
     refine ⟨i + 1,may_x1 hm0 hml hs hc0 bad (fun hne s0 s2 s4 s5 s6 s7 s8 s9 s10 s11 s12 s13 s14 s15 s16 s17 s18 s19 s20 s21 s22 s23 s24 s25 s26 s27 s28 s29 s30 s31 s32 s33 s34 s35 s36 s37 s38 s39 s40 s41 s42 s43 s44 s45 s46 s47 s48 s49 s50 s51 s52 s53 s54 s55 s56 s57 s58 s59 s60 s61 s62 s63 s64 s65 s66 s67 s68 s69 s70 s71 s72 s73 s74 s75 s76 s77 s78 s79 s80 s81 s82 s83 s84 s85 s86 s87 s88 s89 s90 s91 s92 s93 s94 s95 s96 s97 => ?_) i 0 _ _ _ _ _ _ _ _ _ _ _ _ _ _ _ _ _ _ _ _ _ _ _ _ _ _ _ _ _ _ _ _ _ _ _ _ _ _ _ _ _ _ _ _ _ _ _ _ _ _ _ _ _ _ _ _ _ _ _ _ _ _ _ _ _ _ _ _ _ _ _ _ _ _ _ _ _ _ _ _ _ _ _ _ _ _ _ _ _ _ _ _ _ _ _ (by omega) (fun l t hl => by omega)⟩
     refine ih (i + 1) _ _ _ _ _ _ _ _ _ _ _ _ _ _ _ _ _ _ _ _ _ _ _ _ _ _ _ _ _ _ _ _ _ _ _ _ _ _ _ _ _ _ _ _ _ _ _ _ _ _ _ _ _ _ _ _ _ _ _ _ _ _ _ _ _ _ _ _ _ _ _ _ _ _ _ _ _ _ _ _ _ _ _ _ _ _ _ _ _ _ _ _ _ _ _ _ (by omega) (fun j t hj hjt => ?_) (fun j l s' t hj hlj hs' ht' => ?_)
     · by_cases e : j = i
       · subst e; rw [hs] at hjt; cases hjt; exact hms
       · exact h1 j t (by omega) hjt
     · by_cases e : j = i
       · subst e; rw [hs] at hs'; cases hs'; exact hne l t hlj ht'
       · exact h2 j l s' t (by omega) hlj hs' ht'
set_option maxHeartbeats 1000000 in
theorem r_mayRule (hn0 : NodesAt H nv r.nodes) (hm0 : Arr H 1 mv (strCells r.mutes)) (ht : r.tame) : ACalls prog 29 [.agg (r.cells nv mv).toArray] H (.bool r.mayB) H := by
 refine acalls_pure MixT func29 (by decide) rfl ?_
 obtain ⟨k,hk0⟩ : ∃ k : Value → AHeap → Prop,k = fun u H2 => u = .bool r.mayB ∧ ∃ X,H2 = H ++ X := ⟨_,rfl⟩
 rw [← hk0]
 have hk : ∀ M,Pre H M → k (.bool r.mayB) M := fun M p => by rw [hk0]; exact ⟨rfl,p⟩
 have bad : r.mayB = false → ∀ M,Pre H M → k (.bool false) M := fun h M p => by have := hk M p; rwa [h] at this
 clear hk0
 have o1 : nv.oneCell' = true := by obtain ⟨_,h,_⟩ := hn0; exact h.one
 have o2 := hm0.one
 have hnew : aNew H 25 (.agg (r.cells nv mv).toArray) = some (.pointer (some ⟨H.length,0,some 8⟩),H ++ [.cells (r.cells nv mv) 25]) := by simp [aNew_agg,Rul.cells,o1,o2]
 rw [d29,hnew]
 simp only [bndE_some]
 obtain ⟨K,hK⟩ : ∃ K,K = H ++ [.cells (r.cells nv mv) 25] := ⟨_,rfl⟩
 have hp : Pre H K := by rw [hK]; exact .app _ _
 have hc0 : hcells K H.length = some (r.cells nv mv) := by rw [hK]; simp
 have hl8 : Vi.hlen K H.length = some 8 := by rw [hK]; simp [Rul.cells]
 have hc := hc0
 simp only [Rul.cells] at hc
 rw [← hK]
 clear hnew hK
 have iff := Rul.may_iff r
 have b' : ¬ r.mayB = true → k (.bool false) K := fun h => bad (by simpa using h) K hp
 have hml := (hm0.pre hp).len (P := prog) (T := 23) (e := 9) (by simp)
 simp [strCells] at hml
 simp [hc,hl8]
 refine bndC_of (r_mayName K (by have := ht.name; omega)) ?_
 cases n1 : mayName r.name with
 | false =>
   simp
   exact b' (fun h => by have := (iff.1 h).1; rw [n1] at this; cases this)
 | true =>
   have num : ∀ (_ : (r.byL = [] ∨ mayName r.byL = true)) (_ : mayName r.route = true) (_ : r.route ≠ [109,101,116,97]),(r.mutes.length ≤ 4 → (0 ≤ r.forM ∧ r.forM ≤ 1000) → (1 ≤ r.every ∧ r.every ≤ 100) → (1 ≤ r.repeatM ∧ r.repeatM ≤ 10000) → ∀ (s0 s2 s4 s5 s6 s7 s8 s9 s10 s11 s12 s13 s14 s15 s16 s17 s18 s19 s20 s21 s22 s23 s24 s25 s26 s27 s28 s29 s30 s31 s32 s33 s34 s35 s36 s37 s38 s39 s40 s41 s42 s43 s44 s45 s46 s47 s48 s49 s50 s51 s52 s53 s54 s55 s56 s57 s58 s59 s60 s61 s62 s63 s64 s65 s66 s67 s68 s69 s70 s71 s72 s73 s74 s75 s76 s77 s78 s79 s80 s81 s82 s83 s84 s85 s86 s87 s88 s89 s90 s91 s92 s93 s94 s95 s96 s97 : Value),L29x0 (r.mutes.length + 1) k [s0,.pointer (some ⟨H.length,0,some 8⟩),s2,i64 (0 : Nat),s4,s5,s6,s7,s8,s9,s10,s11,s12,s13,s14,s15,s16,s17,s18,s19,s20,s21,s22,s23,s24,s25,s26,s27,s28,s29,s30,s31,s32,s33,s34,s35,s36,s37,s38,s39,s40,s41,s42,s43,s44,s45,s46,s47,s48,s49,s50,s51,s52,s53,s54,s55,s56,s57,s58,s59,s60,s61,s62,s63,s64,s65,s66,s67,s68,s69,s70,s71,s72,s73,s74,s75,s76,s77,s78,s79,s80,s81,s82,s83,s84,s85,s86,s87,s88,s89,s90,s91,s92,s93,s94,s95,s96,s97] K) := by
    intro a1 a2 a3 a4 a5 a6 a7 s0 s2 s4 s5 s6 s7 s8 s9 s10 s11 s12 s13 s14 s15 s16 s17 s18 s19 s20 s21 s22 s23 s24 s25 s26 s27 s28 s29 s30 s31 s32 s33 s34 s35 s36 s37 s38 s39 s40 s41 s42 s43 s44 s45 s46 s47 s48 s49 s50 s51 s52 s53 s54 s55 s56 s57 s58 s59 s60 s61 s62 s63 s64 s65 s66 s67 s68 s69 s70 s71 s72 s73 s74 s75 s76 s77 s78 s79 s80 s81 s82 s83 s84 s85 s86 s87 s88 s89 s90 s91 s92 s93 s94 s95 s96 s97
    refine may_x0 (hm0.pre hp) (hn0.pre hp) ht a4 hc0 (fun h => bad h K hp) (fun q1 q2 => ?_) r.mutes.length 0 _ _ _ _ _ _ _ _ _ _ _ _ _ _ _ _ _ _ _ _ _ _ _ _ _ _ _ _ _ _ _ _ _ _ _ _ _ _ _ _ _ _ _ _ _ _ _ _ _ _ _ _ _ _ _ _ _ _ _ _ _ _ _ _ _ _ _ _ _ _ _ _ _ _ _ _ _ _ _ _ _ _ _ _ _ _ _ _ _ _ _ _ _ _ _ _ (by omega) (fun j t hj => by omega) (fun j l s t hj => by omega)
    have : right r.nodes = r.mayB := by
     rw [Bool.eq_iff_iff,iff]
     exact ⟨fun h => ⟨n1,a1,a2,a3,a5,a6,a7,a4,q1,q2,h⟩,fun h => h.2.2.2.2.2.2.2.2.2.2⟩
    rw [this]
    exact hk K hp
   by_cases hb : r.byL = []
   · simp [hc,hl8,hb]
     refine bndG_f _ _ (r_mayName K (by have := ht.route; omega)) ?_
     cases n3 : mayName r.route with
     | false =>
       simp
       exact b' (fun h => by have := (iff.1 h).2.2.1; rw [n3] at this; cases this)
     | true =>
       by_cases hr : r.route = [109,101,116,97]
       · simp [hc,hl8,hr]
         exact b' (fun h => (iff.1 h).2.2.2.1 hr)
       by_cases c1 : r.forM < 0
       · simp [hc,hl8,hr,hml,c1]
         exact b' (fun h => by have := (iff.1 h).2.2.2.2.1.1; omega)
       by_cases c2 : (1000 : Int) < r.forM
       · simp [hc,hl8,hr,hml,c1,c2]
         exact b' (fun h => by have := (iff.1 h).2.2.2.2.1.2; omega)
       by_cases c3 : r.every < 1
       · simp [hc,hl8,hr,hml,c1,c2,c3]
         exact b' (fun h => by have := (iff.1 h).2.2.2.2.2.1.1; omega)
       by_cases c4 : (100 : Int) < r.every
       · simp [hc,hl8,hr,hml,c1,c2,c3,c4]
         exact b' (fun h => by have := (iff.1 h).2.2.2.2.2.1.2; omega)
       by_cases c5 : r.repeatM < 1
       · simp [hc,hl8,hr,hml,c1,c2,c3,c4,c5]
         exact b' (fun h => by have := (iff.1 h).2.2.2.2.2.2.1.1; omega)
       by_cases c6 : (10000 : Int) < r.repeatM
       · simp [hc,hl8,hr,hml,c1,c2,c3,c4,c5,c6]
         exact b' (fun h => by have := (iff.1 h).2.2.2.2.2.2.1.2; omega)
       by_cases c7 : (4 : Int) < r.mutes.length
       · simp [hc,hl8,hr,hml,c1,c2,c3,c4,c5,c6,c7]
         exact b' (fun h => by have := (iff.1 h).2.2.2.2.2.2.2.1; omega)
       simp [hc,hl8,hr,hml,c1,c2,c3,c4,c5,c6,c7]
       exact ⟨r.mutes.length + 1,num (.inl hb) n3 hr (by omega) ⟨by omega,by omega⟩ ⟨by omega,by omega⟩ ⟨by omega,by omega⟩ _ _ _ _ _ _ _ _ _ _ _ _ _ _ _ _ _ _ _ _ _ _ _ _ _ _ _ _ _ _ _ _ _ _ _ _ _ _ _ _ _ _ _ _ _ _ _ _ _ _ _ _ _ _ _ _ _ _ _ _ _ _ _ _ _ _ _ _ _ _ _ _ _ _ _ _ _ _ _ _ _ _ _ _ _ _ _ _ _ _ _ _ _ _ _ _⟩
   · simp [hc,hl8,hb]
     refine bndG_t _ _ (r_mayName K (by have := ht.byL; omega)) ?_
     cases n2 : mayName r.byL with
     | false =>
       simp
       exact b' (fun h => by
        rcases (iff.1 h).2.1 with q | q
        · exact hb q
        · rw [n2] at q; cases q)
     | true =>
       simp [hc,hl8]
       refine bndG_f _ _ (r_mayName K (by have := ht.route; omega)) ?_
       cases n3 : mayName r.route with
       | false =>
         simp
         exact b' (fun h => by have := (iff.1 h).2.2.1; rw [n3] at this; cases this)
       | true =>
         by_cases hr : r.route = [109,101,116,97]
         · simp [hc,hl8,hr]
           exact b' (fun h => (iff.1 h).2.2.2.1 hr)
         by_cases c1 : r.forM < 0
         · simp [hc,hl8,hr,hml,c1]
           exact b' (fun h => by have := (iff.1 h).2.2.2.2.1.1; omega)
         by_cases c2 : (1000 : Int) < r.forM
         · simp [hc,hl8,hr,hml,c1,c2]
           exact b' (fun h => by have := (iff.1 h).2.2.2.2.1.2; omega)
         by_cases c3 : r.every < 1
         · simp [hc,hl8,hr,hml,c1,c2,c3]
           exact b' (fun h => by have := (iff.1 h).2.2.2.2.2.1.1; omega)
         by_cases c4 : (100 : Int) < r.every
         · simp [hc,hl8,hr,hml,c1,c2,c3,c4]
           exact b' (fun h => by have := (iff.1 h).2.2.2.2.2.1.2; omega)
         by_cases c5 : r.repeatM < 1
         · simp [hc,hl8,hr,hml,c1,c2,c3,c4,c5]
           exact b' (fun h => by have := (iff.1 h).2.2.2.2.2.2.1.1; omega)
         by_cases c6 : (10000 : Int) < r.repeatM
         · simp [hc,hl8,hr,hml,c1,c2,c3,c4,c5,c6]
           exact b' (fun h => by have := (iff.1 h).2.2.2.2.2.2.1.2; omega)
         by_cases c7 : (4 : Int) < r.mutes.length
         · simp [hc,hl8,hr,hml,c1,c2,c3,c4,c5,c6,c7]
           exact b' (fun h => by have := (iff.1 h).2.2.2.2.2.2.2.1; omega)
         simp [hc,hl8,hr,hml,c1,c2,c3,c4,c5,c6,c7]
         exact ⟨r.mutes.length + 1,num (.inr n2) n3 hr (by omega) ⟨by omega,by omega⟩ ⟨by omega,by omega⟩ ⟨by omega,by omega⟩ _ _ _ _ _ _ _ _ _ _ _ _ _ _ _ _ _ _ _ _ _ _ _ _ _ _ _ _ _ _ _ _ _ _ _ _ _ _ _ _ _ _ _ _ _ _ _ _ _ _ _ _ _ _ _ _ _ _ _ _ _ _ _ _ _ _ _ _ _ _ _ _ _ _ _ _ _ _ _ _ _ _ _ _ _ _ _ _ _ _ _ _ _ _ _ _⟩
end
end Go.Vi
namespace Go.Vi
open Go Go.Proofs Go.Proofs.Try
section
variable {r : Rul} {H : AHeap} {nv mv : Value} {b : Nat} {k : Value → AHeap → Prop}
theorem bb_x2 {n1 : Nat} (hn0 : NodesAt H nv r.nodes) {i : Nat} {nd : Nod} (hi : r.nodes[i]? = some nd) (hsel : nd.sel.length ≤ 50) (hi2 : i + 1 < 2 ^ 63) (hT : ∀ K,Pre H K → k (.bool true) K)
  (hk : nd.tame → ∀ (K : AHeap) (left : Int) (s0 s2 s4 s6 s7 s8 s9 s10 s11 s12 s13 s14 s15 s16 s17 s18 s19 s20 s21 s22 s23 s24 s25 s26 s27 s28 s29 s30 s31 s32 s33 s34 s35 s36 s37 s38 s39 s40 s41 s42 s43 s44 s45 s46 s47 s48 s49 s50 s51 s52 s53 s54 s55 s56 s57 s58 s59 s60 s61 s62 s63 s64 s65 s66 s67 s68 s69 s70 s71 s72 s73 s74 s75 s76 s77 s78 s79 s80 s81 s82 s83 s84 s85 s86 s87 s88 s89 s90 s91 s92 s93 s94 s95 s96 s97 s98 s99 s100 s101 s102 s103 s104 s105 s106 s107 s108 s109 s110 s111 s112 s113 s114 s115 s116 s117 s118 s119 s120 s121 s122 s123 s124 s125 s126 s127 s128 s129 s130 : Value),Pre H K → left ≤ 5000 → hcells K b = some (r.cells nv mv) → L5x1 n1 k [s0,.pointer (some ⟨b,0,some 8⟩),s2,i64 left,s4,i64 ((i + 1 : Nat) : Int),s6,s7,s8,s9,s10,s11,s12,s13,s14,s15,s16,s17,s18,s19,s20,s21,s22,s23,s24,s25,s26,s27,s28,s29,s30,s31,s32,s33,s34,s35,s36,s37,s38,s39,s40,s41,s42,s43,s44,s45,s46,s47,s48,s49,s50,s51,s52,s53,s54,s55,s56,s57,s58,s59,s60,s61,s62,s63,s64,s65,s66,s67,s68,s69,s70,s71,s72,s73,s74,s75,s76,s77,s78,s79,s80,s81,s82,s83,s84,s85,s86,s87,s88,s89,s90,s91,s92,s93,s94,s95,s96,s97,s98,s99,s100,s101,s102,s103,s104,s105,s106,s107,s108,s109,s110,s111,s112,s113,s114,s115,s116,s117,s118,s119,s120,s121,s122,s123,s124,s125,s126,s127,s128,s129,s130] K) :
  ∀ (m : List Mat) (j : Nat) (left : Int) (K : AHeap) (s0 s2 s4 s7 s8 s9 s10 s11 s12 s13 s14 s15 s16 s17 s18 s19 s20 s21 s22 s23 s24 s25 s26 s27 s28 s29 s30 s31 s32 s33 s34 s35 s36 s37 s38 s39 s40 s41 s42 s43 s44 s45 s46 s47 s48 s49 s50 s51 s52 s53 s54 s55 s56 s57 s58 s59 s60 s61 s62 s63 s64 s65 s66 s67 s68 s69 s70 s71 s72 s73 s74 s75 s76 s77 s78 s79 s80 s81 s82 s83 s84 s85 s86 s87 s88 s89 s90 s91 s92 s93 s94 s95 s96 s97 s98 s99 s100 s101 s102 s103 s104 s105 s106 s107 s108 s109 s110 s111 s112 s113 s114 s115 s116 s117 s118 s119 s120 s121 s122 s123 s124 s125 s126 s127 s128 s129 s130 : Value), nd.sel.drop j = m → j ≤ nd.sel.length → Pre H K → left ≤ 5000 → (∀ (l : Nat) x, l < j → nd.sel[l]? = some x → x.tame) → hcells K b = some (r.cells nv mv) →
    L5x2 (m.length + 1) n1 k [s0,.pointer (some ⟨b,0,some 8⟩),s2,i64 left,s4,i64 i,i64 j,s7,s8,s9,s10,s11,s12,s13,s14,s15,s16,s17,s18,s19,s20,s21,s22,s23,s24,s25,s26,s27,s28,s29,s30,s31,s32,s33,s34,s35,s36,s37,s38,s39,s40,s41,s42,s43,s44,s45,s46,s47,s48,s49,s50,s51,s52,s53,s54,s55,s56,s57,s58,s59,s60,s61,s62,s63,s64,s65,s66,s67,s68,s69,s70,s71,s72,s73,s74,s75,s76,s77,s78,s79,s80,s81,s82,s83,s84,s85,s86,s87,s88,s89,s90,s91,s92,s93,s94,s95,s96,s97,s98,s99,s100,s101,s102,s103,s104,s105,s106,s107,s108,s109,s110,s111,s112,s113,s114,s115,s116,s117,s118,s119,s120,s121,s122,s123,s124,s125,s126,s127,s128,s129,s130] K := by
 intro m
 induction m with
 | nil =>
   intro j left K s0 s2 s4 s7 s8 s9 s10 s11 s12 s13 s14 s15 s16 s17 s18 s19 s20 s21 s22 s23 s24 s25 s26 s27 s28 s29 s30 s31 s32 s33 s34 s35 s36 s37 s38 s39 s40 s41 s42 s43 s44 s45 s46 s47 s48 s49 s50 s51 s52 s53 s54 s55 s56 s57 s58 s59 s60 s61 s62 s63 s64 s65 s66 s67 s68 s69 s70 s71 s72 s73 s74 s75 s76 s77 s78 s79 s80 s81 s82 s83 s84 s85 s86 s87 s88 s89 s90 s91 s92 s93 s94 s95 s96 s97 s98 s99 s100 s101 s102 s103 s104 s105 s106 s107 s108 s109 s110 s111 s112 s113 s114 s115 s116 s117 s118 s119 s120 s121 s122 s123 s124 s125 s126 s127 s128 s129 s130 hd hj hp hle0 hac hc
   have hle : nd.sel.length ≤ j := by simpa using hd
   obtain ⟨cl,ha,hcl,hcc⟩ := hn0.pre hp
   obtain ⟨sv,h1,h2,h3⟩ := hcc _ _ hi
   obtain ⟨p,q,f1,f2,f3⟩ := ha.field (P := prog) (T := 22) (te := 50) (ft := 48) (f := 2) (d := 2) (x := sv) (by simp) (by simp) (by simp) (by simp) (by simp) h1 rfl
   have hl := h2.len (P := prog) (T := 48) (e := 52) (by simp)
   simp only [List.length_map] at hl
   have hl8 : Vi.hlen K b = some 8 := by rw [hcells_len hc]; rfl
   rw [List.length_nil,L5x2q]
   have : ¬ j < nd.sel.length := by omega
   simp [hc,hl8,Rul.cells,f1,f2,f3,hl,this,hi2]
   refine hk ⟨by omega,fun x hx => ?_⟩ K left _ _ _ _ _ _ _ _ _ _ _ _ _ _ _ _ _ _ _ _ _ _ _ _ _ _ _ _ _ _ _ _ _ _ _ _ _ _ _ _ _ _ _ _ _ _ _ _ _ _ _ _ _ _ _ _ _ _ _ _ _ _ _ _ _ _ _ _ _ _ _ _ _ _ _ _ _ _ _ _ _ _ _ _ _ _ _ _ _ _ _ _ _ _ _ _ _ _ _ _ _ _ _ _ _ _ _ _ _ _ _ _ _ _ _ _ _ _ _ _ _ _ _ _ _ _ _ _ hp hle0 hc
   obtain ⟨l,hl⟩ := List.getElem?_of_mem hx
   exact hac l x (by have := (List.getElem?_eq_some_iff.1 hl).1; omega) hl
 | cons x m ih =>
   intro j left K s0 s2 s4 s7 s8 s9 s10 s11 s12 s13 s14 s15 s16 s17 s18 s19 s20 s21 s22 s23 s24 s25 s26 s27 s28 s29 s30 s31 s32 s33 s34 s35 s36 s37 s38 s39 s40 s41 s42 s43 s44 s45 s46 s47 s48 s49 s50 s51 s52 s53 s54 s55 s56 s57 s58 s59 s60 s61 s62 s63 s64 s65 s66 s67 s68 s69 s70 s71 s72 s73 s74 s75 s76 s77 s78 s79 s80 s81 s82 s83 s84 s85 s86 s87 s88 s89 s90 s91 s92 s93 s94 s95 s96 s97 s98 s99 s100 s101 s102 s103 s104 s105 s106 s107 s108 s109 s110 s111 s112 s113 s114 s115 s116 s117 s118 s119 s120 s121 s122 s123 s124 s125 s126 s127 s128 s129 s130 hd hj hp hle0 hac hc
   have hb : nd.sel[j]? = some x := by rw [← List.head?_drop,hd]; rfl
   have hlt : j < nd.sel.length := (List.getElem?_eq_some_iff.1 hb).1
   obtain ⟨cl,ha,hcl,hcc⟩ := hn0.pre hp
   obtain ⟨sv,h1,h2,h3⟩ := hcc _ _ hi
   obtain ⟨p,q,f1,f2,f3⟩ := ha.field (P := prog) (T := 22) (te := 50) (ft := 48) (f := 2) (d := 2) (x := sv) (by simp) (by simp) (by simp) (by simp) (by simp) h1 rfl
   have hl := h2.len (P := prog) (T := 48) (e := 52) (by simp)
   simp only [List.length_map] at hl
   obtain ⟨p2,g1,g2⟩ := h2.load (P := prog) (T := 48) (te := 52) (i := j) (e := x.cells) (by simp) (by simp) (by simp) (by simp [hb])
   have hl8 : Vi.hlen K b = some 8 := by rw [hcells_len hc]; rfl
   have hX := fun X : AHeap => hcells_more (X := X) hc
   rw [List.length_cons,L5x2q]
   by_cases t1 : left < (x.name.length : Int)
   · simp [hc,hl8,Rul.cells,f1,f2,f3,hl,hlt,g1,g2,Mat.cells,t1]
     exact hT _ (hp.more _)
   · have hw : IntKind.i64.wrap (left - x.name.length) = left - x.name.length := wrap_i64 (by omega) (by omega)
     by_cases t2 : left - (x.name.length : Int) < (x.value.length : Int)
     · simp [hc,hl8,Rul.cells,f1,f2,f3,hl,hlt,g1,g2,Mat.cells,t1,hw,t2]
       exact hT _ (hp.more _)
     · have hw2 : IntKind.i64.wrap (left - x.name.length - x.value.length) = left - x.name.length - x.value.length := wrap_i64 (by omega) (by omega)
       simp [hc,hl8,Rul.cells,f1,f2,f3,hl,hlt,g1,g2,Mat.cells,t1,hw,t2,hw2,show j + 1 < 2 ^ 63 by omega]
       refine ih (j + 1) _ _ _ _ _ _ _ _ _ _ _ _ _ _ _ _ _ _ _ _ _ _ _ _ _ _ _ _ _ _ _ _ _ _ _ _ _ _ _ _ _ _ _ _ _ _ _ _ _ _ _ _ _ _ _ _ _ _ _ _ _ _ _ _ _ _ _ _ _ _ _ _ _ _ _ _ _ _ _ _ _ _ _ _ _ _ _ _ _ _ _ _ _ _ _ _ _ _ _ _ _ _ _ _ _ _ _ _ _ _ _ _ _ _ _ _ _ _ _ _ _ _ _ _ _ _ _ _ _ (by rw [← List.drop_drop,hd]; rfl) hlt (hp.more _) (by omega) (fun l y hl hy => ?_) (hX _)
       by_cases e : l = j
       · subst e; rw [hb] at hy; cases hy; exact ⟨by omega,by omega⟩
       · exact hac l y (by omega) hy
theorem bb_x1 (hn0 : NodesAt H nv r.nodes) (hnl : r.nodes.length ≤ 100) (hT : ∀ K,Pre H K → k (.bool true) K) (hk : (∀ n ∈ r.nodes,n.sel.length ≤ 50 ∧ n.tame) → ∀ K,Pre H K → k (.bool false) K) :
  ∀ (ns : List Nod) (i : Nat) (left : Int) (K : AHeap) (s0 s2 s4 s6 s7 s8 s9 s10 s11 s12 s13 s14 s15 s16 s17 s18 s19 s20 s21 s22 s23 s24 s25 s26 s27 s28 s29 s30 s31 s32 s33 s34 s35 s36 s37 s38 s39 s40 s41 s42 s43 s44 s45 s46 s47 s48 s49 s50 s51 s52 s53 s54 s55 s56 s57 s58 s59 s60 s61 s62 s63 s64 s65 s66 s67 s68 s69 s70 s71 s72 s73 s74 s75 s76 s77 s78 s79 s80 s81 s82 s83 s84 s85 s86 s87 s88 s89 s90 s91 s92 s93 s94 s95 s96 s97 s98 s99 s100 s101 s102 s103 s104 s105 s106 s107 s108 s109 s110 s111 s112 s113 s114 s115 s116 s117 s118 s119 s120 s121 s122 s123 s124 s125 s126 s127 s128 s129 s130 : Value), r.nodes.drop i = ns → i ≤ r.nodes.length → (∀ n ∈ r.nodes.take i, n.sel.length ≤ 50 ∧ n.tame) → Pre H K → left ≤ 5000 → hcells K b = some (r.cells nv mv) →
    L5x1 (ns.length + 1) k [s0,.pointer (some ⟨b,0,some 8⟩),s2,i64 left,s4,i64 i,s6,s7,s8,s9,s10,s11,s12,s13,s14,s15,s16,s17,s18,s19,s20,s21,s22,s23,s24,s25,s26,s27,s28,s29,s30,s31,s32,s33,s34,s35,s36,s37,s38,s39,s40,s41,s42,s43,s44,s45,s46,s47,s48,s49,s50,s51,s52,s53,s54,s55,s56,s57,s58,s59,s60,s61,s62,s63,s64,s65,s66,s67,s68,s69,s70,s71,s72,s73,s74,s75,s76,s77,s78,s79,s80,s81,s82,s83,s84,s85,s86,s87,s88,s89,s90,s91,s92,s93,s94,s95,s96,s97,s98,s99,s100,s101,s102,s103,s104,s105,s106,s107,s108,s109,s110,s111,s112,s113,s114,s115,s116,s117,s118,s119,s120,s121,s122,s123,s124,s125,s126,s127,s128,s129,s130] K := by
 intro ns
 induction ns with
 | nil =>
   intro i left K s0 s2 s4 s6 s7 s8 s9 s10 s11 s12 s13 s14 s15 s16 s17 s18 s19 s20 s21 s22 s23 s24 s25 s26 s27 s28 s29 s30 s31 s32 s33 s34 s35 s36 s37 s38 s39 s40 s41 s42 s43 s44 s45 s46 s47 s48 s49 s50 s51 s52 s53 s54 s55 s56 s57 s58 s59 s60 s61 s62 s63 s64 s65 s66 s67 s68 s69 s70 s71 s72 s73 s74 s75 s76 s77 s78 s79 s80 s81 s82 s83 s84 s85 s86 s87 s88 s89 s90 s91 s92 s93 s94 s95 s96 s97 s98 s99 s100 s101 s102 s103 s104 s105 s106 s107 s108 s109 s110 s111 s112 s113 s114 s115 s116 s117 s118 s119 s120 s121 s122 s123 s124 s125 s126 s127 s128 s129 s130 hd hi hs hp hle0 hc
   have hle : r.nodes.length ≤ i := by simpa using hd
   have hl := (hn0.pre hp).len K
   have hl8 : Vi.hlen K b = some 8 := by rw [hcells_len hc]; rfl
   rw [List.length_nil,L5x1q]
   have : ¬ i < r.nodes.length := by omega
   simp [hc,hl8,Rul.cells,hl,this]
   exact hk (by rw [List.take_of_length_le hle] at hs; exact hs) K hp
 | cons x ns ih =>
   intro i left K s0 s2 s4 s6 s7 s8 s9 s10 s11 s12 s13 s14 s15 s16 s17 s18 s19 s20 s21 s22 s23 s24 s25 s26 s27 s28 s29 s30 s31 s32 s33 s34 s35 s36 s37 s38 s39 s40 s41 s42 s43 s44 s45 s46 s47 s48 s49 s50 s51 s52 s53 s54 s55 s56 s57 s58 s59 s60 s61 s62 s63 s64 s65 s66 s67 s68 s69 s70 s71 s72 s73 s74 s75 s76 s77 s78 s79 s80 s81 s82 s83 s84 s85 s86 s87 s88 s89 s90 s91 s92 s93 s94 s95 s96 s97 s98 s99 s100 s101 s102 s103 s104 s105 s106 s107 s108 s109 s110 s111 s112 s113 s114 s115 s116 s117 s118 s119 s120 s121 s122 s123 s124 s125 s126 s127 s128 s129 s130 hd hi hs hp hle0 hc
   have hb : r.nodes[i]? = some x := by rw [← List.head?_drop,hd]; rfl
   have hlt : i < r.nodes.length := (List.getElem?_eq_some_iff.1 hb).1
   obtain ⟨cl,ha,hcl,hcc⟩ := hn0.pre hp
   obtain ⟨sv,h1,h2,h3⟩ := hcc _ _ hb
   obtain ⟨p,q,f1,f2,f3⟩ := ha.field (P := prog) (T := 22) (te := 50) (ft := 48) (f := 2) (d := 2) (x := sv) (by simp) (by simp) (by simp) (by simp) (by simp) h1 rfl
   have hl := h2.len (P := prog) (T := 48) (e := 52) (by simp)
   simp only [List.length_map] at hl
   have hln := (hn0.pre hp).len K
   have hl8 : Vi.hlen K b = some 8 := by rw [hcells_len hc]; rfl
   rw [List.length_cons,L5x1q]
   simp [hc,hl8,Rul.cells,hln,hlt,f1,f2,f3,hl]
   by_cases h50 : 50 < x.sel.length
   · have h50I : (50 : Int) < x.sel.length := by omega
     simp [h50I]
     exact hT K hp
   · have h50I : ¬ (50 : Int) < x.sel.length := by omega
     simp [h50I]
     refine ⟨x.sel.length + 1,bb_x2 (H := H) (r := r) (nv := nv) (mv := mv) (b := b) hn0 hb (by omega) (by omega) hT ?_ x.sel 0 left K _ _ _ _ _ _ _ _ _ _ _ _ _ _ _ _ _ _ _ _ _ _ _ _ _ _ _ _ _ _ _ _ _ _ _ _ _ _ _ _ _ _ _ _ _ _ _ _ _ _ _ _ _ _ _ _ _ _ _ _ _ _ _ _ _ _ _ _ _ _ _ _ _ _ _ _ _ _ _ _ _ _ _ _ _ _ _ _ _ _ _ _ _ _ _ _ _ _ _ _ _ _ _ _ _ _ _ _ _ _ _ _ _ _ _ _ _ _ _ _ _ _ _ _ _ _ _ rfl (by omega) hp hle0 (fun l y hl => by omega) hc⟩
     intro htx K2 left2 s0 s2 s4 s6 s7 s8 s9 s10 s11 s12 s13 s14 s15 s16 s17 s18 s19 s20 s21 s22 s23 s24 s25 s26 s27 s28 s29 s30 s31 s32 s33 s34 s35 s36 s37 s38 s39 s40 s41 s42 s43 s44 s45 s46 s47 s48 s49 s50 s51 s52 s53 s54 s55 s56 s57 s58 s59 s60 s61 s62 s63 s64 s65 s66 s67 s68 s69 s70 s71 s72 s73 s74 s75 s76 s77 s78 s79 s80 s81 s82 s83 s84 s85 s86 s87 s88 s89 s90 s91 s92 s93 s94 s95 s96 s97 s98 s99 s100 s101 s102 s103 s104 s105 s106 s107 s108 s109 s110 s111 s112 s113 s114 s115 s116 s117 s118 s119 s120 s121 s122 s123 s124 s125 s126 s127 s128 s129 s130 hp2 hle2 hc2
     refine ih (i + 1) left2 K2 _ _ _ _ _ _ _ _ _ _ _ _ _ _ _ _ _ _ _ _ _ _ _ _ _ _ _ _ _ _ _ _ _ _ _ _ _ _ _ _ _ _ _ _ _ _ _ _ _ _ _ _ _ _ _ _ _ _ _ _ _ _ _ _ _ _ _ _ _ _ _ _ _ _ _ _ _ _ _ _ _ _ _ _ _ _ _ _ _ _ _ _ _ _ _ _ _ _ _ _ _ _ _ _ _ _ _ _ _ _ _ _ _ _ _ _ _ _ _ _ _ _ _ _ _ _ _ _ (by rw [← List.drop_drop,hd]; rfl) hlt ?_ hp2 hle2 hc2
     intro n hn
     rw [List.take_add_one,hb] at hn
     simp at hn
     rcases hn with hn | rfl
     · exact hs n hn
     · exact ⟨by omega,htx⟩
set_option maxRecDepth 20000 in
theorem bb_x0 (hn0 : NodesAt H nv r.nodes) (hm0 : Arr H 1 mv (strCells r.mutes)) (hnl : r.nodes.length ≤ 100) (hml : r.mutes.length ≤ 100) (hT : ∀ K,Pre H K → k (.bool true) K)
  (hk : (∀ n ∈ r.nodes,n.sel.length ≤ 50 ∧ n.tame) → (∀ s ∈ r.mutes,s.length ≤ 5000) → ∀ K,Pre H K → k (.bool false) K) :
  ∀ (l : List (List UInt8)) (i : Nat) (left : Int) (K : AHeap) (s0 s2 s5 s6 s7 s8 s9 s10 s11 s12 s13 s14 s15 s16 s17 s18 s19 s20 s21 s22 s23 s24 s25 s26 s27 s28 s29 s30 s31 s32 s33 s34 s35 s36 s37 s38 s39 s40 s41 s42 s43 s44 s45 s46 s47 s48 s49 s50 s51 s52 s53 s54 s55 s56 s57 s58 s59 s60 s61 s62 s63 s64 s65 s66 s67 s68 s69 s70 s71 s72 s73 s74 s75 s76 s77 s78 s79 s80 s81 s82 s83 s84 s85 s86 s87 s88 s89 s90 s91 s92 s93 s94 s95 s96 s97 s98 s99 s100 s101 s102 s103 s104 s105 s106 s107 s108 s109 s110 s111 s112 s113 s114 s115 s116 s117 s118 s119 s120 s121 s122 s123 s124 s125 s126 s127 s128 s129 s130 : Value), r.mutes.drop i = l → i ≤ r.mutes.length → (∀ s ∈ r.mutes.take i, s.length ≤ 5000) → Pre H K → left ≤ 5000 → hcells K b = some (r.cells nv mv) →
    L5x0 (l.length + 1) k [s0,.pointer (some ⟨b,0,some 8⟩),s2,i64 left,i64 i,s5,s6,s7,s8,s9,s10,s11,s12,s13,s14,s15,s16,s17,s18,s19,s20,s21,s22,s23,s24,s25,s26,s27,s28,s29,s30,s31,s32,s33,s34,s35,s36,s37,s38,s39,s40,s41,s42,s43,s44,s45,s46,s47,s48,s49,s50,s51,s52,s53,s54,s55,s56,s57,s58,s59,s60,s61,s62,s63,s64,s65,s66,s67,s68,s69,s70,s71,s72,s73,s74,s75,s76,s77,s78,s79,s80,s81,s82,s83,s84,s85,s86,s87,s88,s89,s90,s91,s92,s93,s94,s95,s96,s97,s98,s99,s100,s101,s102,s103,s104,s105,s106,s107,s108,s109,s110,s111,s112,s113,s114,s115,s116,s117,s118,s119,s120,s121,s122,s123,s124,s125,s126,s127,s128,s129,s130] K := by
 intro l
 induction l with
 | nil =>
   intro i left K s0 s2 s5 s6 s7 s8 s9 s10 s11 s12 s13 s14 s15 s16 s17 s18 s19 s20 s21 s22 s23 s24 s25 s26 s27 s28 s29 s30 s31 s32 s33 s34 s35 s36 s37 s38 s39 s40 s41 s42 s43 s44 s45 s46 s47 s48 s49 s50 s51 s52 s53 s54 s55 s56 s57 s58 s59 s60 s61 s62 s63 s64 s65 s66 s67 s68 s69 s70 s71 s72 s73 s74 s75 s76 s77 s78 s79 s80 s81 s82 s83 s84 s85 s86 s87 s88 s89 s90 s91 s92 s93 s94 s95 s96 s97 s98 s99 s100 s101 s102 s103 s104 s105 s106 s107 s108 s109 s110 s111 s112 s113 s114 s115 s116 s117 s118 s119 s120 s121 s122 s123 s124 s125 s126 s127 s128 s129 s130 hd hi hs hp hle0 hc
   have hle : r.mutes.length ≤ i := by simpa using hd
   have hl := (hm0.pre hp).len (P := prog) (T := 23) (e := 9) (by simp)
   simp [strCells] at hl
   have hl8 : Vi.hlen K b = some 8 := by rw [hcells_len hc]; rfl
   rw [List.length_nil,L5x0q]
   have : ¬ i < r.mutes.length := by omega
   simp [hc,hl8,Rul.cells,hl,this]
   rw [List.take_of_length_le hle] at hs
   exact ⟨r.nodes.length + 1,bb_x1 (H := H) (r := r) (nv := nv) (mv := mv) (b := b) hn0 hnl hT (fun h => hk h hs) r.nodes 0 left K _ _ _ _ _ _ _ _ _ _ _ _ _ _ _ _ _ _ _ _ _ _ _ _ _ _ _ _ _ _ _ _ _ _ _ _ _ _ _ _ _ _ _ _ _ _ _ _ _ _ _ _ _ _ _ _ _ _ _ _ _ _ _ _ _ _ _ _ _ _ _ _ _ _ _ _ _ _ _ _ _ _ _ _ _ _ _ _ _ _ _ _ _ _ _ _ _ _ _ _ _ _ _ _ _ _ _ _ _ _ _ _ _ _ _ _ _ _ _ _ _ _ _ _ _ _ _ _ rfl (by omega) (by simp) hp hle0 hc⟩
 | cons x l ih =>
   intro i left K s0 s2 s5 s6 s7 s8 s9 s10 s11 s12 s13 s14 s15 s16 s17 s18 s19 s20 s21 s22 s23 s24 s25 s26 s27 s28 s29 s30 s31 s32 s33 s34 s35 s36 s37 s38 s39 s40 s41 s42 s43 s44 s45 s46 s47 s48 s49 s50 s51 s52 s53 s54 s55 s56 s57 s58 s59 s60 s61 s62 s63 s64 s65 s66 s67 s68 s69 s70 s71 s72 s73 s74 s75 s76 s77 s78 s79 s80 s81 s82 s83 s84 s85 s86 s87 s88 s89 s90 s91 s92 s93 s94 s95 s96 s97 s98 s99 s100 s101 s102 s103 s104 s105 s106 s107 s108 s109 s110 s111 s112 s113 s114 s115 s116 s117 s118 s119 s120 s121 s122 s123 s124 s125 s126 s127 s128 s129 s130 hd hi hs hp hle0 hc
   have hb : r.mutes[i]? = some x := by rw [← List.head?_drop,hd]; rfl
   have hlt : i < r.mutes.length := (List.getElem?_eq_some_iff.1 hb).1
   have hl := (hm0.pre hp).len (P := prog) (T := 23) (e := 9) (by simp)
   simp [strCells] at hl
   obtain ⟨q,hp1,hp2⟩ := strs_get (hm0.pre hp) hb
   have hl8 : Vi.hlen K b = some 8 := by rw [hcells_len hc]; rfl
   rw [List.length_cons,L5x0q]
   by_cases t1 : left < (x.length : Int)
   · simp [hc,hl8,Rul.cells,hl,hlt,hp1,hp2,t1]
     exact hT K hp
   · have hw : IntKind.i64.wrap (left - x.length) = left - x.length := wrap_i64 (by omega) (by omega)
     simp [hc,hl8,Rul.cells,hl,hlt,hp1,hp2,t1,hw,show i + 1 < 2 ^ 63 by omega]
     refine ih (i + 1) _ K _ _ _ _ _ _ _ _ _ _ _ _ _ _ _ _ _ _ _ _ _ _ _ _ _ _ _ _ _ _ _ _ _ _ _ _ _ _ _ _ _ _ _ _ _ _ _ _ _ _ _ _ _ _ _ _ _ _ _ _ _ _ _ _ _ _ _ _ _ _ _ _ _ _ _ _ _ _ _ _ _ _ _ _ _ _ _ _ _ _ _ _ _ _ _ _ _ _ _ _ _ _ _ _ _ _ _ _ _ _ _ _ _ _ _ _ _ _ _ _ _ _ _ _ _ _ _ _ (by rw [← List.drop_drop,hd]; rfl) hlt ?_ hp (by omega) hc
     intro s hs'
     rw [List.take_add_one,hb] at hs'
     simp at hs'
     rcases hs' with hs' | rfl
     · exact hs s hs'
     · omega
theorem c_bbig (hn0 : NodesAt H nv r.nodes) (hm0 : Arr H 1 mv (strCells r.mutes)) (hw : ∀ n ∈ r.nodes,n.window < 2 ^ 63) : ∃ b,(b = false → r.small ∧ r.tame) ∧ ACalls prog 5 [.agg (r.cells nv mv).toArray] H (.bool b) H := by
 refine acalls_bool MixT func5 (by decide) fun k hT hk => ?_
 rw [d5]
 have h1 : nv.oneCell' = true := by obtain ⟨_,h,_⟩ := hn0; exact h.one
 have h2 := hm0.one
 have hl : ∀ X : AHeap,aLen prog (H ++ X) 23 mv = some (i64 r.mutes.length) := fun X => by
  have := (hm0.pre (.app H X)).len (P := prog) (T := 23) (e := 9) (by simp)
  simpa [strCells] using this
 have hln := fun X : AHeap => (hn0.pre (.app H X)).len (H ++ X)
 have hT' := hT (H ++ [.cells [str r.name,str r.byL,nv,i64 r.forM,i64 r.every,i64 r.repeatM,mv,str r.route] 25]) (.app _ _)
 by_cases c1 : (100 : Int) < r.mutes.length
 · simp [aNew_agg,Rul.cells,h1,h2,hl,hln,c1]
   exact hT'
 by_cases c2 : (100 : Int) < r.nodes.length
 · simp [aNew_agg,Rul.cells,h1,h2,hl,hln,c1,c2]
   exact hT'
 by_cases c3 : (1000 : Int) < r.name.length
 · simp [aNew_agg,Rul.cells,h1,h2,hl,hln,c1,c2,c3]
   exact hT'
 by_cases c4 : (1000 : Int) < r.byL.length
 · simp [aNew_agg,Rul.cells,h1,h2,hl,hln,c1,c2,c3,c4]
   exact hT'
 by_cases c5 : (1000 : Int) < r.route.length
 · simp [aNew_agg,Rul.cells,h1,h2,hl,hln,c1,c2,c3,c4,c5]
   exact hT'
 have w1 : IntKind.i64.wrap (5000 - (r.name.length : Int)) = 5000 - r.name.length := wrap_i64 (by omega) (by omega)
 have w2 : IntKind.i64.wrap (5000 - (r.name.length : Int) - r.byL.length) = 5000 - r.name.length - r.byL.length := wrap_i64 (by omega) (by omega)
 have w3 : IntKind.i64.wrap (5000 - (r.name.length : Int) - r.byL.length - r.route.length) = 5000 - r.name.length - r.byL.length - r.route.length := wrap_i64 (by omega) (by omega)
 simp [aNew_agg,Rul.cells,h1,h2,hl,hln,c1,c2,c3,c4,c5,w1,w2,w3]
 refine ⟨r.mutes.length + 1,?_⟩
 exact bb_x0 (H := H) (r := r) (nv := nv) (mv := mv) (b := H.length) hn0 hm0 (by omega) (by omega) hT (fun q1 q2 K p => hk ⟨⟨by omega,by omega,fun n hn => (q1 n hn).1⟩,⟨by omega,by omega,by omega,q2,by omega,by omega,fun n hn => (q1 n hn).2,hw⟩⟩ K p) r.mutes 0 _ _ _ _ _ _ _ _ _ _ _ _ _ _ _ _ _ _ _ _ _ _ _ _ _ _ _ _ _ _ _ _ _ _ _ _ _ _ _ _ _ _ _ _ _ _ _ _ _ _ _ _ _ _ _ _ _ _ _ _ _ _ _ _ _ _ _ _ _ _ _ _ _ _ _ _ _ _ _ _ _ _ _ _ _ _ _ _ _ _ _ _ _ _ _ _ _ _ _ _ _ _ _ _ _ _ _ _ _ _ _ _ _ _ _ _ _ _ _ _ _ _ _ _ _ _ _ _ _ _ rfl (by omega) (by simp) (.app _ _) (by omega) (by simp [Rul.cells])
end
end Go.Vi
namespace Go.Vi
open Go Go.Proofs Go.Proofs.Try
theorem r_errno (H : AHeap) (b : Bool) : ACalls prog 28 [.bool b] H (i64 (errno b)) H := by
 refine acalls_pure MixT func28 (by decide) rfl ?_
 rw [d28]
 cases b <;> simp [errno]
theorem r_rule {H : AHeap} {r : Rul} {nv mv : Value} (hn0 : NodesAt H nv r.nodes) (hm0 : Arr H 1 mv (strCells r.mutes)) (ht : r.tame) : ACalls prog 8 [.agg (r.cells nv mv).toArray] H (i64 (errno r.mayB)) H := by
 refine acalls_pure MixT func8 (by decide) rfl ?_
 have o1 : nv.oneCell' = true := by obtain ⟨_,h,_⟩ := hn0; exact h.one
 have o2 := hm0.one
 have hnew : aNew H 25 (.agg (r.cells nv mv).toArray) = some (.pointer (some ⟨H.length,0,some 8⟩),H ++ [.cells (r.cells nv mv) 25]) := by simp [aNew_agg,Rul.cells,o1,o2]
 rw [d8,hnew]
 have hl : aLoad prog (H ++ [.cells (r.cells nv mv) 25]) 25 (.pointer (some ⟨H.length,0,some 8⟩)) = some (.agg (r.cells nv mv).toArray) := by simp [Rul.cells]
 simp only [bndE_some,hl,bnd_some]
 refine bndC_of (r_mayRule (hn0.pre (.app _ _)) (hm0.pre (.app _ _)) ht) ?_
 refine bndC_of (r_errno _ _) ?_
 exact ⟨rfl,_,rfl⟩
theorem idx_arr {P : Program} {H : AHeap} {T e : TypeId} {b o m z n : Nat} {k : IntKind} {i : Int} (hu : P.underlying T = some (.array n e)) (hs : tsize P e = some z) (hl : Vi.hlen H b = some m) (h0 : 0 ≤ i) (h1 : i < n) :
  aIndexAddr P H T (.pointer (some ⟨b,o,some m⟩)) (.int k i) = some (.pointer (some ⟨b,o + i.toNat * z,some m⟩)) := by
 show aIndexAddr0 P H T (.pointer (some ⟨b,o,some m⟩)) (.int k i) = _
 simp [aIndexAddr0,hl,h0,h1,hu,hs]
theorem day_get {K : AHeap} {b i : Nat} {m : Mut} {d : Bool} (hd : m.days.length = 7) (hc : hcells K b = some m.cells) (hi : m.days[i]? = some d) :
  ∃ p,aIndexAddr prog K 26 (.pointer (some ⟨b,1,some 10⟩)) (i64 i) = some p ∧ aLoad prog K 4 p = some (.bool d) := by
 have hlt := (List.getElem?_eq_some_iff.1 hi).1
 have hml : m.cells.length = 10 := by simp [Mut.cells,hd]
 have hl : Vi.hlen K b = some 10 := by rw [hcells_len hc,hml]
 refine ⟨.pointer (some ⟨b,1 + i,some 10⟩),?_,?_⟩
 · have := idx_arr (P := prog) (H := K) (T := 26) (e := 4) (b := b) (o := 1) (m := 10) (z := 1) (n := 7) (k := .i64) (i := i) (by simp) (by simp) hl (by omega) (by omega)
   simpa using this
 · have : m.cells[1 + i]? = some (.bool d) := by
    unfold Mut.cells
    rw [show 1 + i = i + 1 by omega,List.getElem?_cons_succ,List.getElem?_append_left (by simpa using hlt),List.getElem?_map,hi]; rfl
   simp [hc,hml,this]
theorem mut_cells {m : Mut} (hd : m.days.length = 7) : ∃ d0 d1 d2 d3 d4 d5 d6 : Bool,m.cells = [str m.name,.bool d0,.bool d1,.bool d2,.bool d3,.bool d4,.bool d5,.bool d6,i64 m.fromM,i64 m.toM] := by
 obtain ⟨name,days,fr,to⟩ := m
 simp only at hd
 match days,hd with
 | [d0,d1,d2,d3,d4,d5,d6],_ => exact ⟨d0,d1,d2,d3,d4,d5,d6,rfl⟩
theorem Mut.may_iff (m : Mut) : m.mayB = (mayName m.name && (m.days.any (true == ·) && (decide (m.fromM ≥ 0) && (decide (m.fromM < 1440) && (decide (m.toM ≥ 1) && (decide (m.toM ≤ 1440) && (m.fromM != m.toM))))))) := by
 unfold Mut.mayB
 have : decide (m.fromM ≤ 1439) = decide (m.fromM < 1440) := by rw [decide_eq_decide]; omega
 simp only [List.all_cons,List.all_nil,id,this,Bool.and_true,Bool.and_assoc]
set_option maxRecDepth 20000 in
theorem mut_loop {H : AHeap} {m : Mut} {b : Nat} {k : Value → AHeap → Prop} (hd : m.days.length = 7) (hn : m.name.length ≤ 5000) (hc : hcells H b = some m.cells) (hk : k (.bool m.mayB) H) :
  ∀ (d i : Nat) (acc : Bool) (s0 s2 s5 s6 s7 s8 s9 s10 s11 s12 s13 s14 s15 s16 s17 s18 s19 s20 s21 s22 s23 s24 s25 s26 s27 s28 s29 s30 s31 s32 s33 s34 s35 s36 s37 s38 s39 s40 s41 s42 s43 s44 s45 s46 s47 s48 : Value),d + i = 7 → acc = (m.days.take i).any (true == ·) → L31x0 (d + 1) k [s0,.pointer (some ⟨b,0,some 10⟩),s2,.bool acc,i64 i,s5,s6,s7,s8,s9,s10,s11,s12,s13,s14,s15,s16,s17,s18,s19,s20,s21,s22,s23,s24,s25,s26,s27,s28,s29,s30,s31,s32,s33,s34,s35,s36,s37,s38,s39,s40,s41,s42,s43,s44,s45,s46,s47,s48] H := by
 have hml : m.cells.length = 10 := by simp [Mut.cells,hd]
 have hl : Vi.hlen H b = some 10 := by rw [hcells_len hc,hml]
 obtain ⟨d0,d1,d2,d3,d4,d5,d6,hce⟩ := mut_cells hd
 have hc1 := hc
 rw [hce] at hc1
 intro d
 induction d with
 | zero =>
   intro i acc s0 s2 s5 s6 s7 s8 s9 s10 s11 s12 s13 s14 s15 s16 s17 s18 s19 s20 s21 s22 s23 s24 s25 s26 s27 s28 s29 s30 s31 s32 s33 s34 s35 s36 s37 s38 s39 s40 s41 s42 s43 s44 s45 s46 s47 s48 hi hacc
   obtain rfl : i = 7 := by omega
   rw [List.take_of_length_le (by omega)] at hacc
   rw [L31x0q]
   rw [Mut.may_iff,← hacc] at hk
   simp [hc1,hl]
   refine bndC_of (r_mayName H (by omega)) ?_
   cases h1 : mayName m.name with
   | false => rw [h1] at hk; simp; simpa using hk
   | true =>
     rw [h1] at hk
     cases acc with
     | false => simp; simpa using hk
     | true =>
       by_cases c1 : (0 : Int) ≤ m.fromM
       · by_cases c2 : m.fromM < 1440
         · by_cases c3 : (1 : Int) ≤ m.toM
           · by_cases c4 : m.toM ≤ 1440
             · simp [hc1,hl,c1,c2,c3,c4]
               simpa [c1,c2,c3,c4] using hk
             · simp [hc1,hl,c1,c2,c3,c4]
               simpa [c1,c2,c3,c4] using hk
           · simp [hc1,hl,c1,c2,c3]
             simpa [c1,c2,c3] using hk
         · simp [hc1,hl,c1,c2]
           simpa [c1,c2] using hk
       · simp [hc1,hl,c1]
         simpa [c1] using hk
 | succ d ih =>
   intro i acc s0 s2 s5 s6 s7 s8 s9 s10 s11 s12 s13 s14 s15 s16 s17 s18 s19 s20 s21 s22 s23 s24 s25 s26 s27 s28 s29 s30 s31 s32 s33 s34 s35 s36 s37 s38 s39 s40 s41 s42 s43 s44 s45 s46 s47 s48 hi hacc
   have hlt : i < 7 := by omega
   obtain ⟨x,hx⟩ : ∃ x,m.days[i]? = some x := ⟨_,List.getElem?_eq_getElem (by omega)⟩
   obtain ⟨p,p1,p2⟩ := day_get hd hc hx
   have hltI : (i : Int) < 7 := by omega
   rw [L31x0q]
   have hacc' : (acc || (true == x)) = (m.days.take (i + 1)).any (true == ·) := by rw [List.take_add_one,hx,hacc]; simp
   cases acc with
   | true =>
     simp [hltI,show i + 1 < 2 ^ 63 by omega]
     exact ih (i + 1) true _ _ _ _ _ _ _ _ _ _ _ _ _ _ _ _ _ _ _ _ _ _ _ _ _ _ _ _ _ _ _ _ _ _ _ _ _ _ _ _ _ _ _ _ _ _ (by omega) (by rw [← hacc']; rfl)
   | false =>
     simp [hltI,show i + 1 < 2 ^ 63 by omega,hl,p1,p2]
     exact ih (i + 1) x _ _ _ _ _ _ _ _ _ _ _ _ _ _ _ _ _ _ _ _ _ _ _ _ _ _ _ _ _ _ _ _ _ _ _ _ _ _ _ _ _ _ _ _ _ _ (by omega) (by rw [← hacc']; cases x <;> rfl)
set_option maxRecDepth 20000 in
theorem mut_new {H : AHeap} (m : Mut) (hd : m.days.length = 7) : aNew H 28 (.agg m.cells.toArray) = some (.pointer (some ⟨H.length,0,some 10⟩),H ++ [.cells m.cells 28]) := by
 rw [aNew_agg (by rw [stor_agg,List.all_eq_true]; exact m.one)]
 have hml : m.cells.length = 10 := by simp [Mut.cells,hd]
 simp [hml]
set_option maxRecDepth 20000 in
theorem r_mayMute {H : AHeap} {m : Mut} (hd : m.days.length = 7) (hn : m.name.length ≤ 5000) : ACalls prog 31 [.agg m.cells.toArray] H (.bool m.mayB) H := by
 refine acalls_pure MixT func31 (by decide) rfl ?_
 rw [d31,mut_new m hd]
 simp only [bndE_some]
 refine ⟨7 + 1,?_⟩
 exact mut_loop (H := H ++ [.cells m.cells 28]) (b := H.length) (k := fun u H2 => u = .bool m.mayB ∧ ∃ X,H2 = H ++ X) hd hn (by simp) ⟨rfl,_,rfl⟩ 7 0 false _ _ _ _ _ _ _ _ _ _ _ _ _ _ _ _ _ _ _ _ _ _ _ _ _ _ _ _ _ _ _ _ _ _ _ _ _ _ _ _ _ _ _ _ _ _ (by omega) (by simp)
theorem mut_get {K : AHeap} {b : Nat} {m : Mut} (hd : m.days.length = 7) (h : hcells K b = some m.cells) : aLoad prog K 28 (.pointer (some ⟨b,0,some 10⟩)) = some (.agg m.cells.toArray) := by
 have hml : m.cells.length = 10 := by simp [Mut.cells,hd]
 simp [h,hml]
 exact List.take_of_length_le (by omega)
theorem r_mute {H : AHeap} {m : Mut} (hd : m.days.length = 7) (hn : m.name.length ≤ 5000) : ACalls prog 10 [.agg m.cells.toArray] H (i64 (errno m.mayB)) H := by
 refine acalls_pure MixT func10 (by decide) rfl ?_
 rw [d10,mut_new m hd]
 simp only [bndE_some,mut_get hd (show hcells (H ++ [.cells m.cells 28]) H.length = some m.cells by simp),bnd_some]
 refine bndC_of (r_mayMute hd hn) ?_
 refine bndC_of (r_errno _ _) ?_
 exact ⟨rfl,_,rfl⟩
theorem rwid_loop {H : AHeap} {ns : List Nod} {v : Value} {k : Value → AHeap → Prop} (hn : NodesAt H v ns) (hl : ns.length < 2 ^ 62) (w : Int) (hk : k (i64 w) H) :
  ∀ (r : List Nod) (i : Nat) (most : Int) (s1 s2 s5 s6 s7 s8 s9 s10 s11 s12 s13 s14 s15 s16 s17 s18 s19 s20 s21 s22 s23 s24 s25 s26 s27 s28 s29 s30 s31 : Value),ns.drop i = r → i ≤ ns.length → widest most r = w → L12x0 (r.length + 1) k [v,s1,s2,i64 most,i64 i,s5,s6,s7,s8,s9,s10,s11,s12,s13,s14,s15,s16,s17,s18,s19,s20,s21,s22,s23,s24,s25,s26,s27,s28,s29,s30,s31] H := by
 have hlen := hn.len
 intro r
 induction r with
 | nil =>
   intro i most s1 s2 s5 s6 s7 s8 s9 s10 s11 s12 s13 s14 s15 s16 s17 s18 s19 s20 s21 s22 s23 s24 s25 s26 s27 s28 s29 s30 s31 hd hi hw
   have hle : ns.length ≤ i := by simpa using hd
   have : ¬ i < ns.length := by omega
   rw [List.length_nil,L12x0q]
   simp only [widest] at hw
   subst hw
   simp [hlen,this]
   exact hk
 | cons n r ih =>
   intro i most s1 s2 s5 s6 s7 s8 s9 s10 s11 s12 s13 s14 s15 s16 s17 s18 s19 s20 s21 s22 s23 s24 s25 s26 s27 s28 s29 s30 s31 hd hi hw
   have hb : ns[i]? = some n := by rw [← List.head?_drop,hd]; rfl
   have hlt : i < ns.length := (List.getElem?_eq_some_iff.1 hb).1
   obtain ⟨cl,ha,hcl,hc⟩ := hn
   obtain ⟨sv,hsv,hm,hml⟩ := hc _ _ hb
   obtain ⟨p1,q1,a1,a2,a3⟩ := ha.field (P := prog) (T := 22) (te := 50) (ft := 5) (f := 0) (d := 0) (x := byt n.kind) (by simp) (by simp) (by simp) (by simp) (by simp) hsv rfl
   obtain ⟨p2,q2,b1,b2,b3⟩ := ha.field (P := prog) (T := 22) (te := 50) (ft := 3) (f := 3) (d := 3) (x := i64 n.window) (by simp) (by simp) (by simp) (by simp) (by simp) hsv rfl
   rw [a1] at b1
   cases b1
   simp only [widest] at hw
   have go : ∀ (most' : Int) (s1 s2 s5 s6 s7 s8 s9 s10 s11 s12 s13 s14 s15 s16 s17 s18 s19 s20 s21 s22 s23 s24 s25 s26 s27 s28 s29 s30 s31 : Value),widest most' r = w → S12x0 (r.length + 1) k [v,s1,s2,i64 most',i64 i,s5,s6,s7,s8,s9,s10,s11,s12,s13,s14,s15,s16,s17,s18,s19,s20,s21,s22,s23,s24,s25,s26,s27,s28,s29,s30,s31] H := by
    intro most' s1 s2 s5 s6 s7 s8 s9 s10 s11 s12 s13 s14 s15 s16 s17 s18 s19 s20 s21 s22 s23 s24 s25 s26 s27 s28 s29 s30 s31 hw'
    rw [S12x0q]
    simp [show i + 1 < 2 ^ 63 by omega]
    exact ih (i + 1) most' _ _ _ _ _ _ _ _ _ _ _ _ _ _ _ _ _ _ _ _ _ _ _ _ _ _ _ _ _ (by rw [← List.drop_drop,hd]; rfl) hlt hw'
   rw [List.length_cons,L12x0q]
   cases hk0 : ((n.kind.toNat : Int) == 0) with
   | false =>
     rw [hk0,if_neg (by simp)] at hw
     simp [hlen,hlt,a1,a2,a3,hk0]
     exact go most _ _ _ _ _ _ _ _ _ _ _ _ _ _ _ _ _ _ _ _ _ _ _ _ _ _ _ _ _ hw
   | true =>
     rw [hk0,if_pos rfl] at hw
     by_cases hm : most < n.window
     · rw [if_pos hm] at hw
       simp [hlen,hlt,a1,a2,a3,b2,b3,hk0,hm]
       exact go n.window _ _ _ _ _ _ _ _ _ _ _ _ _ _ _ _ _ _ _ _ _ _ _ _ _ _ _ _ _ hw
     · rw [if_neg hm] at hw
       simp [hlen,hlt,a1,a2,a3,b2,b3,hk0,hm]
       exact go most _ _ _ _ _ _ _ _ _ _ _ _ _ _ _ _ _ _ _ _ _ _ _ _ _ _ _ _ _ hw
theorem r_widest {H : AHeap} {ns : List Nod} {v : Value} (hn : NodesAt H v ns) (hl : ns.length < 2 ^ 62) : ACalls prog 12 [v] H (i64 (widest 0 ns)) H := by
 refine acalls_pure MixT func12 (by decide) rfl ?_
 rw [d12]
 exact ⟨ns.length + 1,rwid_loop hn hl (widest 0 ns) ⟨rfl,[],by simp⟩ ns 0 0 _ _ _ _ _ _ _ _ _ _ _ _ _ _ _ _ _ _ _ _ _ _ _ _ _ _ _ _ _ rfl (by omega) rfl⟩
section
variable {H : AHeap} {r : Rul} {n1 m1 n2 m2 : Value} {a b : Nat} {k : Value → AHeap → Prop}
theorem sameR_loop (hn1 : NodesAt H n1 r.nodes) (hn2 : NodesAt H n2 r.nodes) (hm1 : Arr H 1 m1 (strCells r.mutes)) (hm2 : Arr H 1 m2 (strCells r.mutes)) (hml : r.mutes.length < 2 ^ 62) (hnl : r.nodes.length < 2 ^ 62) (hs : ∀ n ∈ r.nodes,n.sel.length < 2 ^ 63)
  (ha : hcells H a = some (r.cells n1 m1)) (hb : hcells H b = some (r.cells n2 m2)) (hk : k (.bool true) H) :
  ∀ (d i : Nat) (s0 s1 s4 s6 s7 s8 s9 s10 s11 s12 s13 s14 s15 s16 s17 s18 s19 s20 s21 s22 s23 s24 s25 s26 s27 s28 s29 s30 s31 s32 s33 s34 s35 s36 s37 s38 s39 s40 s41 s42 s43 s44 s45 s46 s47 s48 s49 s50 s51 s52 s53 s54 s55 s56 s57 s58 s59 s60 s61 s62 s63 s64 s65 s66 s67 s68 s69 s70 s71 s72 s73 s74 s75 s76 s77 : Value),d + i = r.mutes.length → L13x0 (d + 1) k [s0,s1,.pointer (some ⟨a,0,some 8⟩),.pointer (some ⟨b,0,some 8⟩),s4,i64 i,s6,s7,s8,s9,s10,s11,s12,s13,s14,s15,s16,s17,s18,s19,s20,s21,s22,s23,s24,s25,s26,s27,s28,s29,s30,s31,s32,s33,s34,s35,s36,s37,s38,s39,s40,s41,s42,s43,s44,s45,s46,s47,s48,s49,s50,s51,s52,s53,s54,s55,s56,s57,s58,s59,s60,s61,s62,s63,s64,s65,s66,s67,s68,s69,s70,s71,s72,s73,s74,s75,s76,s77] H := by
 have la : Vi.hlen H a = some 8 := by rw [hcells_len ha]; rfl
 have lb : Vi.hlen H b = some 8 := by rw [hcells_len hb]; rfl
 simp only [Rul.cells] at ha hb
 have hlen := Arr.len (P := prog) (T := 23) (e := 9) hm1 (by simp)
 simp [strCells] at hlen
 intro d
 induction d with
 | zero =>
   intro i s0 s1 s4 s6 s7 s8 s9 s10 s11 s12 s13 s14 s15 s16 s17 s18 s19 s20 s21 s22 s23 s24 s25 s26 s27 s28 s29 s30 s31 s32 s33 s34 s35 s36 s37 s38 s39 s40 s41 s42 s43 s44 s45 s46 s47 s48 s49 s50 s51 s52 s53 s54 s55 s56 s57 s58 s59 s60 s61 s62 s63 s64 s65 s66 s67 s68 s69 s70 s71 s72 s73 s74 s75 s76 s77 hi
   have : ¬ i < r.mutes.length := by omega
   rw [L13x0q]
   simp [ha,hb,la,lb,hlen,this]
   refine bndG_t (.bool true) H (by have := r_sameN hn1 hn2 (by omega) hs; simpa using this) ?_
   simp [ha,hb,la,lb]
   exact hk
 | succ d ih =>
   intro i s0 s1 s4 s6 s7 s8 s9 s10 s11 s12 s13 s14 s15 s16 s17 s18 s19 s20 s21 s22 s23 s24 s25 s26 s27 s28 s29 s30 s31 s32 s33 s34 s35 s36 s37 s38 s39 s40 s41 s42 s43 s44 s45 s46 s47 s48 s49 s50 s51 s52 s53 s54 s55 s56 s57 s58 s59 s60 s61 s62 s63 s64 s65 s66 s67 s68 s69 s70 s71 s72 s73 s74 s75 s76 s77 hi
   have hlt : i < r.mutes.length := by omega
   obtain ⟨s,hs'⟩ : ∃ t,r.mutes[i]? = some t := ⟨_,List.getElem?_eq_getElem hlt⟩
   obtain ⟨p,p1,p2⟩ := strs_get hm1 hs'
   obtain ⟨q,q1,q2⟩ := strs_get hm2 hs'
   rw [L13x0q]
   simp [ha,hb,la,lb,hlen,hlt,p1,p2,q1,q2,show i + 1 < 2 ^ 63 by omega]
   exact ih (i + 1) _ _ _ _ _ _ _ _ _ _ _ _ _ _ _ _ _ _ _ _ _ _ _ _ _ _ _ _ _ _ _ _ _ _ _ _ _ _ _ _ _ _ _ _ _ _ _ _ _ _ _ _ _ _ _ _ _ _ _ _ _ _ _ _ _ _ _ _ _ _ _ _ _ _ _ (by omega)
theorem r_sameRule (hn1 : NodesAt H n1 r.nodes) (hn2 : NodesAt H n2 r.nodes) (hm1 : Arr H 1 m1 (strCells r.mutes)) (hm2 : Arr H 1 m2 (strCells r.mutes)) (hml : r.mutes.length < 2 ^ 62) (hnl : r.nodes.length < 2 ^ 62) (hs : ∀ n ∈ r.nodes,n.sel.length < 2 ^ 63) :
  ACalls prog 13 [.agg (r.cells n1 m1).toArray,.agg (r.cells n2 m2).toArray] H (.bool true) H := by
 refine acalls_pure MixT func13 (by decide) rfl ?_
 have o1 : n1.oneCell' = true := by obtain ⟨_,h,_⟩ := hn1; exact h.one
 have o2 := hm1.one
 have o3 : n2.oneCell' = true := by obtain ⟨_,h,_⟩ := hn2; exact h.one
 have o4 := hm2.one
 have hnew1 : aNew H 25 (.agg (r.cells n1 m1).toArray) = some (.pointer (some ⟨H.length,0,some 8⟩),H ++ [.cells (r.cells n1 m1) 25]) := by simp [aNew_agg,Rul.cells,o1,o2]
 have hnew2 : aNew (H ++ [.cells (r.cells n1 m1) 25]) 25 (.agg (r.cells n2 m2).toArray) = some (.pointer (some ⟨H.length + 1,0,some 8⟩),H ++ [.cells (r.cells n1 m1) 25,.cells (r.cells n2 m2) 25]) := by simp [aNew_agg,Rul.cells,o3,o4]
 rw [d13,hnew1]
 simp only [bndE_some]
 rw [hnew2]
 simp only [bndE_some]
 obtain ⟨K,hK⟩ : ∃ K,K = H ++ [AObj.cells (r.cells n1 m1) 25,.cells (r.cells n2 m2) 25] := ⟨_,rfl⟩
 have hp : Pre H K := by rw [hK]; exact .app _ _
 have ha0 : hcells K H.length = some (r.cells n1 m1) := by rw [hK]; simp
 have hb0 : hcells K (H.length + 1) = some (r.cells n2 m2) := by rw [hK]; simp
 rw [← hK]
 have la : Vi.hlen K H.length = some 8 := by rw [hcells_len ha0]; rfl
 have lb : Vi.hlen K (H.length + 1) = some 8 := by rw [hcells_len hb0]; rfl
 have ha := ha0
 have hb := hb0
 simp only [Rul.cells] at ha hb
 have e1 := Arr.len (P := prog) (T := 23) (e := 9) (hm1.pre hp) (by simp)
 have e2 := Arr.len (P := prog) (T := 23) (e := 9) (hm2.pre hp) (by simp)
 simp [strCells] at e1 e2
 simp [ha,hb,la,lb,e1,e2]
 exact ⟨r.mutes.length + 1,sameR_loop (hn1.pre hp) (hn2.pre hp) (hm1.pre hp) (hm2.pre hp) hml hnl hs ha0 hb0 ⟨rfl,hp⟩ r.mutes.length 0 _ _ _ _ _ _ _ _ _ _ _ _ _ _ _ _ _ _ _ _ _ _ _ _ _ _ _ _ _ _ _ _ _ _ _ _ _ _ _ _ _ _ _ _ _ _ _ _ _ _ _ _ _ _ _ _ _ _ _ _ _ _ _ _ _ _ _ _ _ _ _ _ _ _ _ (by omega)⟩
end
end Go.Vi
namespace Go.Vi
open Go Go.Proofs Go.Proofs.Try
theorem rul_get {K : AHeap} {b : Nat} {r : Rul} {nv mv : Value} (h : hcells K b = some (r.cells nv mv)) : aLoad prog K 25 (.pointer (some ⟨b,0,some 8⟩)) = some (.agg (r.cells nv mv).toArray) := by
 simp [h,Rul.cells]
set_option maxRecDepth 20000 in
set_option maxHeartbeats 1000000 in
theorem w_rules {H : AHeap} {r : Rul} {nv mv : Value} {m : Mut} (hn : NodesAt H nv r.nodes) (hm : Arr H 1 mv (strCells r.mutes)) (hml : r.mutes.length < 2 ^ 63) (hw : ∀ n ∈ r.nodes,n.window < 2 ^ 63) (hd : m.days.length = 7) :
  ACalls prog 3 [.agg (r.cells nv mv).toArray,.agg m.cells.toArray] H (.bool true) H := by
 refine acalls_pure MixT func3 (by decide) rfl ?_
 obtain ⟨k,hk0⟩ : ∃ k : Value → AHeap → Prop,k = fun u H2 => u = Value.bool true ∧ ∃ X,H2 = H ++ X := ⟨_,rfl⟩
 rw [← hk0]
 have hk : ∀ M,Pre H M → k (.bool true) M := fun M p => by rw [hk0]; exact ⟨rfl,p⟩
 clear hk0
 have o1 : nv.oneCell' = true := by obtain ⟨_,h,_⟩ := hn; exact h.one
 have o2 := hm.one
 have hnew : aNew H 25 (.agg (r.cells nv mv).toArray) = some (.pointer (some ⟨H.length,0,some 8⟩),H ++ [.cells (r.cells nv mv) 25]) := by simp [aNew_agg,Rul.cells,o1,o2]
 rw [d3,hnew]
 simp only [bndE_some]
 rw [mut_new m hd]
 simp only [bndE_some]
 obtain ⟨K,hK⟩ : ∃ K,K = H ++ [AObj.cells (r.cells nv mv) 25] ++ [.cells m.cells 28] := ⟨_,rfl⟩
 have hp : Pre H K := by rw [hK,List.append_assoc]; exact .app _ _
 have hr0 : hcells K H.length = some (r.cells nv mv) := by rw [hK]; simp
 have hm0 : hcells K (H.length + 1) = some m.cells := by rw [hK]; simp
 have hlen1 : (H ++ [AObj.cells (r.cells nv mv) 25]).length = H.length + 1 := by simp
 rw [hlen1,← hK]
 refine bnd_of (rul_get hr0) ?_
 obtain ⟨b,hb,hcall⟩ := c_bbig (hn.pre hp) (hm.pre hp) hw
 refine bndC_of hcall ?_
 cases b with
 | true =>
   simp
   exact hk K hp
 | false =>
   obtain ⟨hs,ht⟩ := hb rfl
   obtain ⟨d0,d1,d2,d3,d4,d5,d6,hce⟩ := mut_cells hd
   have hm0' := hm0
   rw [hce] at hm0'
   have lm0 : Vi.hlen K (H.length + 1) = some 10 := by rw [hcells_len hm0']; rfl
   by_cases c1 : (1000 : Int) < m.name.length
   · simp [hm0',lm0,c1]
     exact hk K hp
   · simp [hm0',lm0,c1]
     refine bnd_of (v := .agg (r.cells nv mv).toArray) (by simpa using rul_get hr0) ?_
     obtain ⟨nv',mv',K2,g1,g2,g3,g4⟩ := c_copyRule (hn.pre hp) (hm.pre hp) hs
     refine bndC_of g1 ?_
     simp only [tal25,bndE_some]
     have p3 := g3.one
     have p4 := g4.one
     have hst : aStore prog (K2 ++ [.cells [.string ByteArray.empty,.string ByteArray.empty,.slice none 0 0,.int .i64 0,.int .i64 0,.int .i64 0,.slice none 0 0,.string ByteArray.empty] 25]) 25 (.pointer (some ⟨K2.length,0,some 8⟩)) (.agg (r.cells nv' mv').toArray) = some (K2 ++ [.cells (r.cells nv' mv') 25]) := by
      simp [Rul.cells,p3,p4]
     refine ⟨undef,_,⟨rfl,hst⟩,?_⟩
     dsimp only
     obtain ⟨M,hM⟩ : ∃ M,M = K2 ++ [AObj.cells (r.cells nv' mv') 25] := ⟨_,rfl⟩
     have pM2 : Pre K2 M := by rw [hM]; exact .app _ _
     have pM := g2.trans pM2
     have pHM := hp.trans pM
     have hr1 := pM.hcells hr0
     have hm1 := pM.hcells hm0
     have hr2 : hcells M K2.length = some (r.cells nv' mv') := by rw [hM]; simp
     have nM := hn.pre pHM
     have mM := hm.pre pHM
     have nM' := g3.at.pre pM2
     have mM' := g4.arr.pre pM2
     have hl62 : r.mutes.length < 2 ^ 62 := by have := ht.mlen; omega
     have hnl : r.nodes.length < 2 ^ 62 := by have := ht.nlen; omega
     have hsl : ∀ n ∈ r.nodes,n.sel.length < 2 ^ 63 := fun n hn => by have := (ht.nods n hn).1; omega
     have hmn : m.name.length ≤ 5000 := by omega
     rw [← hM]
     clear hM hst hnew
     refine bnd_of (rul_get hr2) ?_
     refine bndD_same (c_rule nM' mM' hml) ?_
     refine bnd_of (rul_get hr1) ?_
     refine bndD_same (r_rule nM mM ht) ?_
     simp
     refine bnd_of (v := .agg m.cells.toArray) (by simpa using mut_get hd hm1) ?_
     refine bndD_gcall _ rfl (fun _ => c_mute hd) ?_
     refine bnd_of (v := .agg m.cells.toArray) (by first | exact mut_get hd hm1 | simpa using mut_get hd hm1) ?_
     refine bndD_gcall _ rfl (fun _ => r_mute hd hmn) ?_
     simp
     have lr1 : Vi.hlen M H.length = some 8 := by rw [hcells_len hr1]; rfl
     have lr2 : Vi.hlen M K2.length = some 8 := by rw [hcells_len hr2]; rfl
     have e1 := hr1
     have e2 := hr2
     simp only [Rul.cells] at e1 e2
     simp [e1,e2,lr1,lr2]
     refine bndD_same (c_window nM' (by omega)) ?_
     simp [e1,e2,lr1,lr2]
     refine bndD_same (r_widest nM hnl) ?_
     have z1 : ∀ n m,(r.cells n m).length = 8 := fun _ _ => rfl
     have z2 : ∀ n m,(r.cells n m).take 8 = r.cells n m := fun _ _ => rfl
     simp [hr1,hr2,z1,z2]
     refine bndD_gcall _ rfl (fun _ => r_sameRule nM' nM mM' mM hl62 hnl hsl) ?_
     simp
     exact hk M pHM
end Go.Vi
